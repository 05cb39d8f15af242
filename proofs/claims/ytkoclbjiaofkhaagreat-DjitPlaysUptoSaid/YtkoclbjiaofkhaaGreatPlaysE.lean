/- What the law Plays rests on, part 5 of 8. -/
import Derived.Test.YtkoclbjiaofkhaaGreatPlaysD
set_option linter.unusedVariables false
set_option linter.unusedSimpArgs false
set_option maxRecDepth 100000
namespace Go.Ab.Rv
open Go Go.Proofs Go.Ab Go.Ab.Fe Go.Ab.Vc Go.Ab.Dj
theorem jn_comm {l m:List Int} (hl:CV l) (hm:CV m):jn l m=jn m l:=Tr_ext (jn_cv hl hm).tr (jn_cv hm hl).tr fun i=>by rw [jn_g hl hm,jn_g hm hl];omega
/-- A part of a map as a list. -/
def tabF (n:Nat) (T:Int→Option (List Int)):List (Option (List Int)):=(List.range n).map fun (i:Nat)=>T (i:Int)
theorem tab_len (n:Nat) (T:Int→Option (List Int)):(tabF n T).length=n:=by simp [tabF]
theorem tab_get {n i:Nat} {T:Int→Option (List Int)} (h:i < n):(tabF n T)[i]?=some (T (i:Int)):=by simp [tabF,h]
theorem tab_set {n i:Nat} {T:Int→Option (List Int)} {v:Option (List Int)}:(tabF n T).set i v=tabF n (upd T (i:Int) v):=by
  apply List.ext_getElem?
  intro q
  rcases Nat.lt_or_ge q n with h | h
  · rw [tab_get h]
    by_cases e:q=i
    · subst e;rw [List.getElem?_set_self (by rw [tab_len];exact h),sL]
    · rw [List.getElem?_set_ne (Ne.symm e),tab_get h,sF (fun h2=>e Om)]
  · rw [List.getElem?_eq_none (by rw [List.length_set,tab_len];exact h),List.getElem?_eq_none (by rw [tab_len];exact h)]
abbrev RK:=Int × Int × List Int
structure RelK (c:CS) (rd:Int × Int→Option (List Int × Int)) (R:List RK):Prop where
  Rl:(R.length:Int)≤c.n
  Rd:(R.map fun q=>(q.1,q.2.1)).Nodup
  Rk:∀ q∈R,CV q.2.2∧(0≤q.1∧q.2.1≤(opF c q.1).1)∧∀ p,rd (q.1,q.2.1)=some p→q.2.2=p.1
  Re:∀ o n p,rd (o,n)=some p→∃ h,(o,n,h)∈R
  Rc:∀ q∈R,q.2.1=(opF c q.1).1→(rd (q.1,q.2.1)).isSome=true
theorem relK_nil {c:CS} (h:0≤c.n):RelK c noF []:=⟨h,.nil,fun q hq=>(by cases hq),fun o n p h=>(by cases h),fun q hq=>(by cases hq)⟩
theorem nx_n {x:CS} {k t o:Int} (h:canF x k t o):(nxF x k t o).n=x.n+1:=by
  obtain ⟨n5,n6,n7,n9,n10,n11,nn⟩:=nxF_k h
  by_cases k5:k=5
  · rw [n5 k5]
  by_cases k6:k=6
  · rw [n6 k6]
  by_cases k7:k=7
  · rw [n7 k7]
  by_cases k9:k=9
  · rw [n9 k9]
  by_cases k10:k=10
  · rw [n10 k10]
  by_cases k11:k=11
  · rw [n11 k11]
  rw [nn k5 k6 k7 k9 k10 k11]
theorem op_keep {x:CS} (hx:CInv x) {k t o:Int} (hc:canF x k t o) (k9:k≠9) {b:Int} (hb:0≤b):opF (nxF x k t o) b=opF x b:=by
  rw [opF_next hx hc hb,if_neg (fun q=>k9 q.1)]
theorem relK_keep {c:CS} {rd:Int × Int→Option (List Int × Int)} {R:List RK} (h:RelK c rd R) (hx:CInv c) {k t o:Int} (hc:canF c k t o) (k9:k≠9):RelK (nxF c k t o) rd R :=
  ⟨by have:=h.Rl;rw [nx_n hc];omega,h.Rd,fun q hq=>by
    obtain ⟨a,⟨b0,b⟩,d⟩:=h.Rk q hq
    exact ⟨a,⟨b0,by rw [op_keep hx hc k9 b0];exact b⟩,d⟩,h.Re,fun q hq e=>h.Rc q hq (by rw [op_keep hx hc k9 (h.Rk q hq).2.1.1] at e;exact e)⟩
theorem relK_dep {c:CS} {rd:Int × Int→Option (List Int × Int)} {R:List RK} (h:RelK c rd R) {o r0:Int} {p:List Int × Int} (hp:rd (o,r0)=some p) (hlt:r0 < (opF c o).1) (q0:Option (List Int × Int)) (hq0:∀ s,q0=some s→s.1=p.1):RelK c (upd rd (o,r0) q0) R :=
  ⟨h.Rl,h.Rd,fun q hq=>by
    obtain ⟨a,b,d⟩:=h.Rk q hq
    refine ⟨a,b,fun s hs=>?_⟩
    rcases upd_some hs with ⟨e,hs⟩ | ⟨-,hs⟩
    · rw [hq0 s hs];exact d p (by rw [e];exact hp)
    · exact d s hs,fun o2 n s hs=>by
    rcases upd_some hs with ⟨e,-⟩ | ⟨-,hs⟩
    · simp only [Prod.mk.injEq] at e
      rw [e.1,e.2];exact h.Re o r0 p hp
    · exact h.Re o2 n s hs,fun q hq e=>by
    have hne:(q.1,q.2.1)≠(o,r0):=fun e2=>by
      simp only [Prod.mk.injEq] at e2
      rw [e2.1,e2.2] at e;omega
    rw [sF hne];exact h.Rc q hq e⟩
theorem relK_arr {c:CS} (hx:CInv c) {rd:Int × Int→Option (List Int × Int)} {R R':List RK} (h:RelK c rd R) {k t o:Int} (hk:k=9) (hc:canF c k t o) {l:List Int} {z:Int} (hl:(R'.length:Int)≤c.n+1) (hd:(R'.map fun q=>(q.1,q.2.1)).Nodup)
    (h1:∀ q∈R',(q∈R∧(q.1,q.2.1)≠(o,(opF c o).1))∨(q.1=o∧q.2.1=(opF c o).1∧CV q.2.2∧q.2.2=l)) (h2:∀ q∈R,(q.1,q.2.1)≠(o,(opF c o).1)→q∈R') (h3:∃ g,(o,(opF c o).1,g)∈R') :
    RelK (nxF c k t o) (upd rd (o,(opF c o).1) (some (l,z))) R':=by
  subst hk
  obtain ⟨o5,o7,o9,o10,o11⟩:=can_obj hx hc
  obtain ⟨p0,p1,p2,p3⟩:=o9 rfl
  have hop:∀ b:Int,0≤b→(opF c b).1≤(opF (nxF c 9 t o) b).1:=fun b hb=>by
    rw [opF_next hx hc hb]
    split
    · rename_i e
      rw [e.2];unfold arrF;split
      · show _≤_+1;omega
      · exact Int.le_refl _
    · exact Int.le_refl _
  refine ⟨by rw [nx_n hc];exact hl,hd,fun q hq=>?_,fun o2 n s hs=>?_,fun q hq e=>?_⟩
  · rcases h1 q hq with ⟨hm,hne⟩ | ⟨e1,e2,a,b⟩
    · obtain ⟨a,⟨b0,b⟩,d⟩:=h.Rk q hm
      exact ⟨a,⟨b0,Int.le_trans b (hop _ b0)⟩,fun s hs=>d s (by rwa [sF hne] at hs)⟩
    · refine ⟨a,⟨by omega,by rw [e2,e1];exact hop _ p0⟩,fun s hs=>?_⟩
      rw [e1,e2,sL] at hs;cases hs;exact b
  · rcases upd_some hs with ⟨e,-⟩ | ⟨hne,hs⟩
    · simp only [Prod.mk.injEq] at e
      rw [e.1,e.2];exact h3
    · obtain ⟨g,hg⟩:=h.Re o2 n s hs
      exact ⟨g,h2 _ hg hne⟩
  · rcases h1 q hq with ⟨hm,hne⟩ | ⟨e1,e2,a,b⟩
    · rw [sF hne]
      obtain ⟨-,⟨b0,b⟩,-⟩:=h.Rk q hm
      refine h.Rc q hm ?_
      rw [opF_next hx hc b0] at e
      split at e
      · rename_i e3
        unfold arrF at e
        rw [e3.2] at b
        split at e
        · simp only at e;omega
        · rw [e,e3.2]
      · exact e
    · rw [e1,e2,sL];rfl
theorem key_inj {R:List RK} (hd:(R.map fun q=>(q.1,q.2.1)).Nodup) {i j:Nat} {a b:RK} (hi:R[i]?=some a) (hj:R[j]?=some b) (e:(a.1,a.2.1)=(b.1,b.2.1)):i=j:=by
  have h1:(R.map fun q=>(q.1,q.2.1))[i]?=some (a.1,a.2.1):=by rw [List.getElem?_map,hi];rfl
  have h2:(R.map fun q=>(q.1,q.2.1))[j]?=some (b.1,b.2.1):=by rw [List.getElem?_map,hj];rfl
  exact (List.getElem?_inj (List.getElem?_eq_some_iff.1 h1).1 hd).1 (by rw [h1,h2,e])
theorem set_sameL {α:Type} {l:List α} {i:Nat} {a:α} (h:l[i]?=some a):l.set i a=l:=by
  apply List.ext_getElem?
  intro q
  by_cases e:q=i
  · subst e;rw [List.getElem?_set_self (List.getElem?_eq_some_iff.1 h).1,h]
  · rw [List.getElem?_set_ne (Ne.symm e)]
theorem arr_yes {c:CS} (hx:CInv c) {rd:Int × Int→Option (List Int × Int)} {R:List RK} (h:RelK c rd R) {k t o:Int} (hk:k=9) (hc:canF c k t o) {i:Nat} {q:RK} (hq:R[i]?=some q) (e1:q.1=o) (e2:q.2.1=(opF c o).1) {l:List Int} {z:Int} (ho:CV l) :
    RelK (nxF c k t o) (upd rd (o,(opF c o).1) (some (l,z))) (R.set i (q.1,q.2.1,l)):=by
  have hi:=(List.getElem?_eq_some_iff.1 hq).1
  have hm:(R.set i (q.1,q.2.1,l)).map (fun q=>(q.1,q.2.1))=R.map fun q=>(q.1,q.2.1):=by
    rw [List.map_set]
    refine set_sameL ?_
    rw [List.getElem?_map,hq];rfl
  refine relK_arr hx h hk hc (by rw [List.length_set];have:=h.Rl;omega) (by rw [hm];exact h.Rd) (fun a ha=>?_) (fun a ha hne=>?_) ⟨l,?_⟩
  · obtain ⟨j,hj⟩:=List.getElem?_of_mem ha
    by_cases e:j=i
    · subst e
      rw [List.getElem?_set_self hi] at hj
      cases hj;exact .inr ⟨e1,e2,ho,rfl⟩
    · rw [List.getElem?_set_ne (Ne.symm e)] at hj
      exact .inl ⟨List.mem_of_getElem? hj,fun e3=>e (key_inj h.Rd hj hq (by rw [e3,e1,e2]))⟩
  · obtain ⟨j,hj⟩:=List.getElem?_of_mem ha
    have e:j≠i:=fun e=>by
      subst e;rw [hq] at hj;cases hj;exact hne (by rw [e1,e2])
    exact List.mem_of_getElem? (i:=j) (by rw [List.getElem?_set_ne (Ne.symm e)];exact hj)
  · exact List.mem_of_getElem? (i:=i) (by rw [List.getElem?_set_self hi,e1,e2])
theorem arr_no {c:CS} (hx:CInv c) {rd:Int × Int→Option (List Int × Int)} {R:List RK} (h:RelK c rd R) {k t o:Int} (hk:k=9) (hc:canF c k t o) (hno:¬ ∃ (j:Nat) (q:RK),R[j]?=some q∧q.1=o∧q.2.1=(opF c o).1) {l:List Int} {z:Int} (ho:CV l) :
    RelK (nxF c k t o) (upd rd (o,(opF c o).1) (some (l,z))) (R++[(o,(opF c o).1,l)]):=by
  have hn:∀ q∈R,(q.1,q.2.1)≠(o,(opF c o).1):=fun q hq e=>by
    obtain ⟨j,hj⟩:=List.getElem?_of_mem hq
    simp only [Prod.mk.injEq] at e
    exact hno ⟨j,q,hj,e.1,e.2⟩
  refine relK_arr hx h hk hc (by have:=h.Rl;simp;omega) ?_ (fun a ha=>?_) (fun a ha hne=>List.mem_append_left _ ha) ⟨l,by simp⟩
  · rw [List.map_append,List.nodup_append]
    refine ⟨h.Rd,by simp,fun a ha b hb=>?_⟩
    obtain ⟨q,hq,rfl⟩:=List.mem_map.1 ha
    simp only [List.map_cons,List.map_nil,List.mem_singleton] at hb
    rw [hb];exact hn q hq
  · rcases List.mem_append.1 ha with ha | ha
    · exact .inl ⟨ha,hn a ha⟩
    · simp only [List.mem_singleton] at ha
      subst ha;exact .inr ⟨rfl,rfl,ho,rfl⟩
/-! ### In memory -/
def encA (a:Option Addr):List Value:=[.pointer a]
theorem encA_len:∀ x,(encA x).length=1:=fun _=>rfl
theorem encA_one:∀ x,(encA x).all Value.oneCell'=true:=fun _=>rfl
/-- What a round keeps: its barrier, its number, where its vector lies. -/
abbrev KP:=Int × Int × Option Addr
def encK (x:KP):List Value:=[.int .i64 x.1,.int .i64 x.2.1,.pointer x.2.2]
theorem encK_len:∀ x,(encK x).length=3:=fun _=>rfl
theorem encK_one:∀ x,(encK x).all Value.oneCell'=true:=fun _=>rfl
def krA (v:KP) (t:RK):HProp:=fun h=>v.1=t.1∧v.2.1=t.2.1∧ckA v.2.2 t.2.2 h
def rvR (pa:Option Addr) (pc b:Nat) (x:VS):HProp:=fun h=>∃ cb Ta Tc La Lc Oa Oc Ra Rc VT VL VO VR YR,(VT.length=x.ck.th.toNat∧VL.length=x.ck.lk.toNat∧VO.length=x.ck.vo.toNat∧VR.length=YR.length)∧RelK x.ck x.rd YR ∧
  Sat [cells b 0 [.pointer (some ⟨cb,0,none⟩),.slice Ta VT.length Tc,.slice La VL.length Lc,.slice Oa VO.length Oc,.slice Ra VR.length Rc],rk pa pc cb x.ck,own 1 encA Ta Tc VT,restL optR VT (tabF x.ck.th.toNat x.th) [],own 1 encA La Lc VL,restL optR VL (tabF x.ck.lk.toNat x.lk) [],
    own 1 encA Oa Oc VO,restL optR VO (tabF x.ck.vo.toNat x.vo) [],own 3 encK Ra Rc VR,restL krA VR YR []] h
section
variable {w0:World} {ds:List Deferred} {n:Nat} {e:Env} {Γ Γ':List HProp} {X:Act→World→Prop}
theorem rv_open {pa:Option Addr} {pc b:Nat} {x:VS} (tk:Take Γ (rvR pa pc b x) Γ') (k:∀ cb Ta Tc La Lc Oa Oc Ra Rc VT VL VO VR YR,VT.length=x.ck.th.toNat→VL.length=x.ck.lk.toNat→VO.length=x.ck.vo.toNat→VR.length=YR.length→RelK x.ck x.rd YR →
    Le (St w0 ds n e (cells b 0 [.pointer (some ⟨cb,0,none⟩),.slice Ta VT.length Tc,.slice La VL.length Lc,.slice Oa VO.length Oc,.slice Ra VR.length Rc]::rk pa pc cb x.ck::own 1 encA Ta Tc VT::restL optR VT (tabF x.ck.th.toNat x.th) []::own 1 encA La Lc VL::restL optR VL (tabF x.ck.lk.toNat x.lk) [] ::
      own 1 encA Oa Oc VO::restL optR VO (tabF x.ck.vo.toNat x.vo) []::own 3 encK Ra Rc VR::restL krA VR YR []::Γ')) X):Le (St w0 ds n e Γ) X:=fun a w s=>by
  obtain ⟨h1,l1,⟨cb,Ta,Tc,La,Lc,Oa,Oc,Ra,Rc,VT,VL,VO,VR,YR,⟨q1,q2,q3,q4⟩,hR,a1⟩,s1⟩:=tk _ s.heap
  exact k cb Ta Tc La Lc Oa Oc Ra Rc VT VL VO VR YR q1 q2 q3 q4 hR a w ⟨s.defers,s.size,s.env,Bun.unfold ⟨h1,l1,a1,s1⟩,s.amb⟩
theorem rv_fold {b:Nat} (x:VS) {pa:Option Addr} {pc cb Tc Lc Oc Rc n1 n2 n3 n4:Nat} {Ta La Oa Ra:Option Addr} {c:CS} {VT VL VO:List (Option Addr)} {VR:List KP} {YR:List RK} {YT YL YO:List (Option (List Int))}
    (tk:Takes Γ [cells b 0 [.pointer (some ⟨cb,0,none⟩),.slice Ta n1 Tc,.slice La n2 Lc,.slice Oa n3 Oc,.slice Ra n4 Rc],rk pa pc cb c,own 1 encA Ta Tc VT,restL optR VT YT [],own 1 encA La Lc VL,restL optR VL YL [],
      own 1 encA Oa Oc VO,restL optR VO YO [],own 3 encK Ra Rc VR,restL krA VR YR []] Γ') (h1:n1=VT.length) (h2:n2=VL.length) (h3:n3=VO.length) (h4:n4=VR.length) (hc:c=x.ck)
    (e1:YT=tabF x.ck.th.toNat x.th) (e2:YL=tabF x.ck.lk.toNat x.lk) (e3:YO=tabF x.ck.vo.toNat x.vo) (q1:VT.length=x.ck.th.toNat) (q2:VL.length=x.ck.lk.toNat) (q3:VO.length=x.ck.vo.toNat) (q4:VR.length=YR.length) (hR:RelK x.ck x.rd YR)
    (k:Le (St w0 ds n e (rvR pa pc b x::Γ')) X):Le (St w0 ds n e Γ) X:=cQ (fun h s=>by
  subst h1 h2 h3 h4 hc e1 e2 e3
  obtain ⟨h1,l1,a1,s1⟩:=Bun.fold (tk h s)
  exact ⟨h1,l1,⟨cb,Ta,Tc,La,Lc,Oa,Oc,Ra,Rc,VT,VL,VO,VR,YR,⟨q1,q2,q3,q4⟩,hR,a1⟩,s1⟩) k
theorem s_kr {v:KP} {t:RK} (tk:Take Γ (krA v t) Γ') (k:∀ b,v=(t.1,t.2.1,some ⟨b,0,none⟩)→Le (St w0 ds n e (ckB b t.2.2::Γ')) X):Le (St w0 ds n e Γ) X:=fun a w s=>by
  obtain ⟨h1,l1,⟨a1,a2,b,hb,a3⟩,s1⟩:=tk _ s.heap
  exact k b (by obtain ⟨v1,v2,v3⟩:=v;simp only at a1 a2 hb;rw [a1,a2,hb]) a w ⟨s.defers,s.size,s.env,⟨h1,l1,a3,s1⟩,s.amb⟩
theorem s_krF (b:Nat) (t:RK) (tk:Take Γ (ckB b t.2.2) Γ') (k:Le (St w0 ds n e (krA (t.1,t.2.1,some ⟨b,0,none⟩) t::Γ')) X):Le (St w0 ds n e Γ) X:=cQ (fun h s=>by
  obtain ⟨h1,l1,a1,s1⟩:=tk h s
  exact ⟨h1,l1,⟨rfl,rfl,b,rfl,a1⟩,s1⟩) k
theorem optR_some {a:Option Addr} {t:List Int} (tk:Take Γ (optR a (some t)) Γ') (k:∀ b,a=some ⟨b,0,none⟩→Le (St w0 ds n e (ckB b t::Γ')) X):Le (St w0 ds n e Γ) X:=ck_a tk k
theorem optR_someF {b:Nat} {t:List Int} (tk:Take Γ (ckB b t) Γ') (k:Le (St w0 ds n e (optR (some ⟨b,0,none⟩) (some t)::Γ')) X):Le (St w0 ds n e Γ) X:=ck_aF tk k
theorem optR_none {a:Option Addr} (tk:Take Γ (optR a none) Γ') (k:a=none→Le (St w0 ds n e (optR none none::Γ')) X):Le (St w0 ds n e Γ) X:=fun x w s=>by
  obtain ⟨h1,l1,a1,s1⟩:=tk _ s.heap
  have e:a=none:=a1
  subst e
  exact k rfl x w ⟨s.defers,s.size,s.env,⟨h1,l1,a1,s1⟩,s.amb⟩
end
end Go.Ab.Rv
set_option linter.unusedVariables false
set_option linter.unusedSimpArgs false
set_option maxRecDepth 100000
namespace Go.Ab.Rv
open Go Go.Proofs Go.Ab Go.Ab.Fe Go.Ab.Vc Go.Ab.Dj
theorem lists1_spec (o c:Nat) (t:List Int):Spec Tryz.prog 117 [.slice (some ⟨o,0,none⟩) 1 1] [cells o 0 [.pointer (some ⟨c,0,none⟩)],ckB c t] (fun (r:Option Addr × Nat × Option Addr × Nat × List Int)=>.tuple #[.slice r.1 1 r.2.1,.bool true]) (fun r=>OkV r.2.2.2.2∧tr r.2.2.2.2=t) (fun r=>[cells o 0 [.pointer (some ⟨c,0,none⟩)],ckB c t,own 1 encH r.1 r.2.1 [((r.2.2.1,r.2.2.2.1,r.2.2.2.2):LstA Int)],own 1 encU r.2.2.1 r.2.2.2.1 r.2.2.2.2]):=by
 refine kQ (n:=30) Tryz.func117 rfl rfl rfl ?_
 intro Γ w0
 simp only [argE,Ca,Na,Zd,Nat.reduceAdd]
 refine qL (qC (.q 0 (.q 1 (.done))) Kr ?_)
 refine qS rfl rfl rfl rfl (qS rfl rfl rfl rfl (qR (qQ (qL (qC (.q 0 (.done)) Kr ?_)))))
 refine qS rfl rfl rfl rfl (qR (qQ (qL (qL (qC (.q 0 (.done)) Kr ?_)))))
 refine qS rfl rfl rfl rfl (qR (qQ (kC (c_unroll 1 ?_))))
 refine qL (qL (qC (.q 0 (.q 1 (.q 2 (.q 3 (.done))))) Kr ?_))
 refine qK rfl rfl rfl rfl (qK rfl rfl rfl rfl (cJ rfl rfl rfl rfl υ'108 ?_))
 refine qB rfl rfl rfl rfl rfl (cB _ _ _ _) ?_
 refine qR (qW [0,4,5,9] (e':=[(0,_),(4,_),(5,_),(9,_)]) rfl ?_)
 refine qQ ?_
 refine qD rfl (fun hg=>?_) (fun hg=>by exfalso;omega)
 refine qF (qQ (qL (kC (qL (qL (qC (.q 0 (.q 1 (.q 2 (.q 3 (.q 4 (.done)))))) Kr ?_))))))
 refine qK rfl rfl rfl rfl (qK rfl rfl rfl rfl (q_idx (k:=0) rfl rfl rfl rfl rfl υ'108 ζ'102 (by first | rfl | omega) Om (by exact ⟨_,_,rfl⟩) ?_))
 intro ib io hx_;cases hx_
 refine qP (j:=0) rfl rfl rfl rfl α'102 Tk Az (by rfl) ?_
 refine cG rfl rfl rfl rfl υ'102 ?_
 refine kB 16 rfl (v':=.bool false) rfl ?_
 refine qR (qW [0,4,5,16] (e':=[(0,_),(4,_),(5,_),(16,_)]) rfl ?_)
 refine qQ (kZ rfl ?_)
 refine qF (qQ (ck_open (b:=c) (t:=t) Tk fun ao cap l ho ht=>?_))
 have hll:=ho.1
 refine qC (.q 0 ((.l 1 [] (.q 2 (.q 3 (.q 4 (.q 5 (.q 6 (.q 7 (.q 8 ((.l 9 [] ((.l 10 [] ((.l 11 [] (.q 12 (.done)))))))))))))))))) Kr ?_
 refine qK rfl rfl rfl rfl (rC rfl rfl rfl rfl υ'65 ζ'67 ?_)
 intro b18
 refine qV (qK rfl rfl rfl rfl (qK rfl rfl rfl rfl (q_idx (k:=0) rfl rfl rfl rfl rfl υ'108 ζ'102 (by first | rfl | omega) Om (by exact ⟨_,_,rfl⟩) ?_)))
 intro ib io hx_;cases hx_
 refine qP (j:=0) rfl rfl rfl rfl α'102 Tk Az (by rfl) ?_
 refine qX rfl rfl rfl rfl (qG (k:=0) rfl rfl rfl rfl υ'153 rfl ζ'65 rfl ?_)
 refine qP (j:=0) rfl rfl rfl rfl α'65 Tk Az (by rfl) ?_
 refine cS (A:=own 1 encU ao cap l) Tk ?_
 refine own_fc fun f_1a f_1b f_1c=>?_
 refine cS (A:=cells b18 0 []) Tk ?_
 refine cQ (fun _ h=>own_mk (sz:=1) (enc:=encU) (xs:=[]) (sp:=[]) (cap:=0) (Nat.le_refl _) rfl h) ?_
 refine sG (sz:=1) (enc:=encU) (xs:=[]) rfl rfl rfl rfl rfl υ'65 τ'67 rfl rfl rfl (by decide) Tk Tk (by first | rfl | omega | (simp;done) | (simp;omega)) (ys:=l) (rR encU_len (fun h=>(f_1b h).1) f_1c) (by rfl) (by first | rfl | omega) (encU_len) (encU_one) Om (by show _*8≤_;omega) ?_
 intro ao26 cp26
 try simp only [Na]
 refine kB 26 rfl (v':=.slice ao26 l.length cp26) (by first | rfl | (congr 1;done) | (congr 1 <;> first | rfl | omega | (simp;done) | (simp;omega))) ?_
 refine qV (cL rfl rfl rfl rfl (sQ (us:=[_]) υ'36 ζ'65 rfl Tryz.zeroValue65 rfl rfl rfl) ?_)
 intro b27
 refine qV (cQ (fun _ h=>sR (sz:=1) (enc:=(encH:LstA Int→List Value)) h) ?_)
 refine sG (sz:=1) (enc:=encH) (xs:=[]) rfl rfl rfl rfl rfl υ'36 Tryz.typeInfo65 rfl rfl rfl (by decide) Tk Tk (by first | rfl | omega | (simp;done) | (simp;omega)) (ys:=[((ao26,cp26,l):LstA Int)]) (sX sS) (by rfl) (by first | rfl | omega) (sB) (encH_one) Om (by show _*24≤_;omega) ?_
 intro la lc
 try simp only [Na]
 refine qV (qS rfl rfl rfl rfl (qR (qW [0,4,5] (e':=[(0,_),(4,_),(5,_)]) rfl ?_)))
 refine kX (qQ (qC (.q 0 (.q 1 (.q 2 (.done)))) Kr ?_))
 refine qK rfl rfl rfl rfl (qB rfl rfl rfl rfl rfl (cV _ (by exact kP Om Om)) ?_)
 refine qS rfl rfl rfl rfl (qR (qQ (c_round ?_)))
 refine qL (qL (qC (.q 0 (.q 1 (.q 2 (.q 3 (.done))))) Kr ?_))
 refine qK rfl rfl rfl rfl (qK rfl rfl rfl rfl (cJ rfl rfl rfl rfl υ'108 ?_))
 refine qB rfl rfl rfl rfl rfl (cB _ _ _ _) ?_
 refine qR (qW [0,4,5,9] (e':=[(0,_),(4,_),(5,_),(9,_)]) rfl ?_)
 refine qQ ?_
 refine qD rfl (fun hg=>by exfalso;omega) (fun hg=>?_)
 refine cW (qY (qY (kK (qQ (qL (qC (.q 0 (.q 1 (.q 2 (.done)))) Kr ?_))))))
 refine qK rfl rfl rfl rfl (qS rfl rfl rfl rfl (qS rfl rfl rfl rfl (qR (qW [2,3] (e':=[(2,_),(3,_)]) rfl ?_))))
 refine qQ (qJ (ck_fold (b:=c) (ao:=ao) (cap:=cap) (l:=l) t Ts (by first | rfl | simp) ho ht ?_))
 refine ret2 rfl rfl rfl ((la,lc,ao26,cp26,l)) (by first | rfl | (first | rfl | (congr 1;done) | (congr 1 <;> first | rfl | omega | (simp;done) | (simp;omega)))) (by exact ⟨ho,ht⟩) ?_
 exact Tf
theorem join1_spec (b o c:Nat) (t u:List Int):Spec Tryz.prog 106 [.pointer (some ⟨b,0,none⟩),.slice (some ⟨o,0,none⟩) 1 1] [ckB b t,cells o 0 [.pointer (some ⟨c,0,none⟩)],ckB c u] (fun (_:Unit)=>.int .i64 0) (fun _=>True) (fun _=>[ckB b (jn t u),cells o 0 [.pointer (some ⟨c,0,none⟩)],ckB c u]):=by
 refine kQ (n:=56) Tryz.func106 rfl rfl rfl ?_
 intro Γ w0
 simp only [argE,Ca,Na,Zd,Nat.reduceAdd]
 refine qL (qC (.q 0 (.done)) Kr ?_)
 refine qS rfl rfl rfl rfl (qR (qQ (qL (qC (.q 0 ((.l 1 [] (.q 2 (.q 3 (.q 4 (.q 5 (.q 6 (.done))))))))) Kr ?_))))
 refine qK rfl rfl rfl rfl ?_
 have sp_1:=lists1_spec o c u
 refine qM rfl rfl rfl rfl rfl rfl Tryz.call117 (sp_1) Ts ?_
 rintro ⟨la,lc,ma,mc,m⟩ ⟨hom,htm⟩
 simp only at hom htm
 have hml:=hom.1
 try simp only [Ca,Na]
 refine qV (qK rfl rfl rfl rfl (kY rfl rfl rfl rfl rfl (kY rfl rfl rfl rfl rfl (qS rfl rfl rfl rfl (qS rfl rfl rfl rfl (qR (qW [0,5,6] (e':=[(0,_),(5,_),(6,_)]) rfl ?_)))))))
 refine qQ (qL (qL (qC (.q 0 (.q 1 (.q 2 (.q 3 (.q 4 (.q 5 (.done))))))) Kr ?_)))
 refine qK rfl rfl rfl rfl (cG rfl rfl rfl rfl υ'102 ?_)
 refine kB 15 rfl (v':=.bool false) rfl ?_
 refine qK rfl rfl rfl rfl (qK rfl rfl rfl rfl (sY rfl rfl rfl rfl ?_))
 refine kB 18 rfl (v':=.bool false) rfl ?_
 refine kN rfl rfl rfl rfl rfl (qR (qW [0,5,19] (e':=[(0,_),(5,_),(19,_)]) rfl ?_))
 refine qQ (kZ rfl ?_)
 refine qF (qQ (qL (qL (ck_open (b:=b) (t:=t) Tk fun ao cap l ho ht=>?_))))
 have hll:=ho.1
 refine qC (.q 0 (.done)) Kr ?_
 refine qS rfl rfl rfl rfl (qR (qQ (kC (c_unroll 1 ?_))))
 refine qL (qL (qC (.q 0 (.q 1 (.q 2 (.q 3 (.done))))) Kr ?_))
 refine qK rfl rfl rfl rfl (qK rfl rfl rfl rfl (cJ rfl rfl rfl rfl υ'36 ?_))
 refine qB rfl rfl rfl rfl rfl (cB _ _ _ _) ?_
 refine qR (qW [0,5,7,23] (e':=[(0,_),(5,_),(7,_),(23,_)]) rfl ?_)
 refine qQ ?_
 refine qD rfl (fun hg=>?_) (fun hg=>by exfalso;omega)
 refine qF (qQ (qL (kC (qL (qC (.q 0 (.done)) Kr ?_)))))
 refine qS rfl rfl rfl rfl (qR (qQ (kC ?_)))
 refine cH (α:=Nat × List Int × Option Addr × Nat) (fun (x_:Nat × List Int × Option Addr × Nat)=>match x_ with | (i,v,va,vc)=>i≤m.length∧(OkV v)∧(JnI l m v i)) (fun (x_:Nat × List Int × Option Addr × Nat)=>match x_ with | (i,v,va,vc)=>[(8,.int .i64 ((i:Nat):Int))]) (fun (x_:Nat × List Int × Option Addr × Nat)=>match x_ with | (i,v,va,vc)=>[cells b 0 [.slice va v.length vc],own 1 encU va vc v]) (fun (x_:Nat × List Int × Option Addr × Nat)=>match x_ with | (i,v,va,vc)=>m.length - i) [0,5,7] (er:=[(0,_),(5,_),(7,_)]) rfl (0,l,ao,cap) ?_ (by exact ⟨rfl,trivial⟩) (by (try dsimp only);(try simp only [Ad,Zd]);(repeat ((with_reducible apply Z2);focus (first | (with_reducible (repeat (first | exact Z0 | apply Z1));done) | (repeat (first | exact Z0 | apply Z1)))));exact Z3) ?_
 · exact ⟨Nat.zero_le _,ho,JnI_zero _ _⟩
 rintro ⟨i,v,va,vc⟩ ⟨hle_i,hov,hJ⟩
 try simp only [Ca,Na]
 have hvl:=hov.1
 refine qL (qL (qC (.q 0 (.q 1 (.q 2 (.q 3 (.q 4 (.q 5 (.q 6 (.done)))))))) Kr ?_))
 refine qK rfl rfl rfl rfl (qK rfl rfl rfl rfl (qK rfl rfl rfl rfl (kF (sz:=0) (k:=0) (enc:=encH) (xs:=[((ma,mc,m):LstA Int)]) rfl rfl rfl rfl rfl υ'36 ζ'65 (rfl:([((ma,mc,m):LstA Int)])[0]?=some (ma,mc,m)) (by first | rfl | omega) Om Tk ?_)))
 intro ib29 io29 ha29 hl29 hc29
 refine kS (v:=(.slice ma m.length mc)) (j:=0) (k':=0) (enc:=encH) (off:=io29) rfl rfl rfl rfl α'65 ha29 sB (rfl:([((ma,mc,m):LstA Int)])[0]?=some (ma,mc,m)) Tk (by first | rfl | exact (Ad _).symm | omega) (by rfl) ?_
 refine cJ rfl rfl rfl rfl υ'65 ?_
 refine qB rfl rfl rfl rfl rfl (cB _ _ _ _) ?_
 refine qR (qW [0,5,7,8,32] (e':=[(0,_),(5,_),(7,_),(8,_),(32,_)]) rfl ?_)
 refine qQ ?_
 refine qD rfl (fun hlt=>?_) (fun hlt=>?_)
 ·
  refine qF (qQ (qL (kC (qL ?_))))
  obtain ⟨y,hy⟩:=cR (l:=m) (i:=i) Om
  have hyg:m.getD i 0=y:=getD_of hy
  have hyr:=hom.2 y (List.mem_of_getElem? hy)
  refine kL rfl (.q 0 (.q 1 (.q 2 (.q 3 (.q 4 (.q 5 (.q 6 (.q 7 (.q 8 ((.l 9 [3,6] (.q 10 (.done))))))))))))) Kr ?_
  refine qK rfl rfl rfl rfl (qK rfl rfl rfl rfl (kF (sz:=0) (k:=0) (enc:=encH) (xs:=[((ma,mc,m):LstA Int)]) rfl rfl rfl rfl rfl υ'36 ζ'65 (rfl:([((ma,mc,m):LstA Int)])[0]?=some (ma,mc,m)) (by first | rfl | omega) Om Tk ?_))
  intro ib37 io37 ha37 hl37 hc37
  refine kS (v:=(.slice ma m.length mc)) (j:=0) (k':=0) (enc:=encH) (off:=io37) rfl rfl rfl rfl α'65 ha37 sB (rfl:([((ma,mc,m):LstA Int)])[0]?=some (ma,mc,m)) Tk (by first | rfl | exact (Ad _).symm | omega) (by rfl) ?_
  refine qK rfl rfl rfl rfl (kF (sz:=0) (k:=i) (enc:=encU) (xs:=m) rfl rfl rfl rfl rfl υ'65 ζ'67 hy (by first | rfl | omega) Om Tk ?_)
  intro ib40 io40 ha40 hl40 hc40
  refine kS (v:=(.int .u64 y)) (j:=0) (k':=i) (enc:=encU) (off:=io40) rfl rfl rfl rfl α'67 ha40 encU_len hy Tk (by first | rfl | exact (Ad _).symm | omega) (by rfl) ?_
  refine qK rfl rfl rfl rfl (qK rfl rfl rfl rfl ?_)
  have sp_2:=Rv.get_open b va vc v hov i
  refine qM rfl rfl rfl rfl rfl rfl κ'77 (sp_2) Ts ?_
  rintro ⟨⟩ -
  try simp only [Ca,Na]
  refine sJ (v:=(.slice ma m.length mc)) (j:=0) (k':=0) (enc:=encH) (off:=io37) rfl rfl rfl α'65 ha37 sB (rfl:([((ma,mc,m):LstA Int)])[0]?=some (ma,mc,m)) Tk (by first | rfl | exact (Ad _).symm | omega) (by rfl) ?_
  refine sJ (v:=(.int .u64 y)) (j:=0) (k':=i) (enc:=encU) (off:=io40) rfl rfl rfl α'67 ha40 encU_len hy Tk (by first | rfl | exact (Ad _).symm | omega) (by rfl) ?_
  refine qV (qB rfl rfl rfl rfl rfl (b_gtr _ _ _ _) ?_)
  refine qR (qW [0,5,7,8,45] (e':=[(0,_),(5,_),(7,_),(8,_),(45,_)]) rfl ?_)
  refine qQ ?_
  refine qD rfl (fun hgt=>?_) (fun hgt=>?_)
  ·
   refine qC (.q 0 (.q 1 (.q 2 (.q 3 (.q 4 (.q 5 (.q 6 (.q 7 (.q 8 ((.l 9 [] (.done)))))))))))) Kr ?_
   refine qK rfl rfl rfl rfl (qK rfl rfl rfl rfl (qK rfl rfl rfl rfl (qK rfl rfl rfl rfl (kF (sz:=0) (k:=0) (enc:=encH) (xs:=[((ma,mc,m):LstA Int)]) rfl rfl rfl rfl rfl υ'36 ζ'65 (rfl:([((ma,mc,m):LstA Int)])[0]?=some (ma,mc,m)) (by first | rfl | omega) Om Tk ?_))))
   intro ib50 io50 ha50 hl50 hc50
   refine kS (v:=(.slice ma m.length mc)) (j:=0) (k':=0) (enc:=encH) (off:=io50) rfl rfl rfl rfl α'65 ha50 sB (rfl:([((ma,mc,m):LstA Int)])[0]?=some (ma,mc,m)) Tk (by first | rfl | exact (Ad _).symm | omega) (by rfl) ?_
   refine qK rfl rfl rfl rfl (kF (sz:=0) (k:=i) (enc:=encU) (xs:=m) rfl rfl rfl rfl rfl υ'65 ζ'67 hy (by first | rfl | omega) Om Tk ?_)
   intro ib53 io53 ha53 hl53 hc53
   refine kS (v:=(.int .u64 y)) (j:=0) (k':=i) (enc:=encU) (off:=io53) rfl rfl rfl rfl α'67 ha53 encU_len hy Tk (by first | rfl | exact (Ad _).symm | omega) (by rfl) ?_
   have sp_3:=Rv.put_open b va vc v hov i y Om
   refine qM rfl rfl rfl rfl rfl rfl Tryz.call79 (sp_3) Ts ?_
   rintro ⟨pa,pc⟩ -
   try simp only [Ca,Na]
   refine qV (qR (qW [0,5,7,8] (e':=[(0,_),(5,_),(7,_),(8,_)]) rfl ?_))
   refine kX (qQ (qC (.q 0 (.q 1 (.q 2 (.done)))) Kr ?_))
   refine qK rfl rfl rfl rfl (qB rfl rfl rfl rfl rfl (cV _ (by exact kP Om Om)) ?_)
   refine qS rfl rfl rfl rfl (qR (qQ ?_))
   rw [← hyg]
   refine kJ (x:=(i,v,va,vc)) ((i+1,withL v i (m.getD i 0),pa,pc)) ?_ ?_ ?_ ?_
   · try dsimp only
     exact ⟨by omega,ok_with hov Om Om Om,JnI_put hJ Om⟩
   · show m.length - (i+1) < m.length - i;omega
   · exact ⟨rfl,rfl,rfl,rfl,trivial⟩
   · (try simp only [Ca,Na]);exact Tf
  refine qF (kX (qQ (qC (.q 0 (.q 1 (.q 2 (.done)))) Kr ?_)))
  refine qK rfl rfl rfl rfl (qB rfl rfl rfl rfl rfl (cV _ (by exact kP Om Om)) ?_)
  refine qS rfl rfl rfl rfl (qR (qQ ?_))
  refine kJ (x:=(i,v,va,vc)) ((i+1,v,va,vc)) ?_ ?_ ?_ ?_
  · try dsimp only
    exact ⟨by omega,hov,JnI_skip hJ Om⟩
  · show m.length - (i+1) < m.length - i;omega
  · exact ⟨rfl,rfl,rfl,rfl,trivial⟩
  · (try simp only [Ca,Na]);exact Tf
 refine cW (qY (qY (kK (kX (qQ (qC (.q 0 (.q 1 (.q 2 (.done)))) Kr ?_))))))
 refine qK rfl rfl rfl rfl (qB rfl rfl rfl rfl rfl (cV _ (by exact kP Om Om)) ?_)
 refine qS rfl rfl rfl rfl (qR (qW [0,5,7] (e':=[(0,_),(5,_),(7,_)]) rfl ?_))
 refine qQ (c_round ?_)
 refine qL (qL (qC (.q 0 (.q 1 (.q 2 (.q 3 (.done))))) Kr ?_))
 refine qK rfl rfl rfl rfl (qK rfl rfl rfl rfl (cJ rfl rfl rfl rfl υ'36 ?_))
 refine qB rfl rfl rfl rfl rfl (cB _ _ _ _) ?_
 refine qR (qQ ?_)
 refine qD rfl (fun hg=>by exfalso;omega) (fun hg=>?_)
 refine cW (qY (qY (kK (qQ (qL (qC (.q 0 (.done)) Kr ?_))))))
 refine qS rfl rfl rfl rfl (qR (qW [4] (e':=[(4,_)]) rfl ?_))
 refine qQ (qJ ?_)
 obtain rfl:i=m.length:=by omega
 refine ck_fold (b:=b) (ao:=va) (cap:=vc) (l:=v) (jn t u) Ts (by first | rfl | simp) hov (by rw [JnI_end ho hom hov hJ (Nat.le_refl _),ht,htm]) ?_
 refine kD rfl rfl (()) (by first | rfl | (first | rfl | (congr 1;done) | (congr 1 <;> first | rfl | omega | (simp;done) | (simp;omega)))) (by trivial) ?_
 exact Tf
theorem joined_none (a:Nat) (t:List Int):Spec Tryz.prog 80 [.pointer (some ⟨a,0,none⟩),.pointer none] [ckB a t] (fun (_:Unit)=>.pointer (some ⟨a,0,none⟩)) (fun _=>True) (fun _=>[ckB a t]):=by
 refine kQ (n:=12) Tryz.func80 rfl rfl rfl ?_
 intro Γ w0
 simp only [argE,Ca,Na,Zd,Nat.reduceAdd]
 refine qL (qC (.q 0 (.done)) Kr ?_)
 refine qS rfl rfl rfl rfl (qR (qQ (qL (qL (qC (.q 0 (.q 1 (.done))) Kr ?_)))))
 refine qK rfl rfl rfl rfl (q_ne_nil rfl rfl rfl rfl υ'102 ?_)
 refine kB 6 rfl (v':=.bool false) rfl ?_
 refine qR (qQ (kZ rfl ?_))
 refine qF (qQ (qL (qC (.q 0 (.q 1 (.done))) Kr ?_)))
 refine qK rfl rfl rfl rfl (qS rfl rfl rfl rfl (qR (qW [4] (e':=[(4,_)]) rfl ?_)))
 refine qQ (qJ (kD rfl rfl (()) (by first | rfl | (first | rfl | (congr 1;done) | (congr 1 <;> first | rfl | omega | (simp;done) | (simp;omega)))) (by trivial) ?_))
 exact Tf
theorem joined_some (a kb:Nat) (t u:List Int):Spec Tryz.prog 80 [.pointer (some ⟨a,0,none⟩),.pointer (some ⟨kb,0,none⟩)] [ckB a t,ckB kb u] (fun (_:Unit)=>.pointer (some ⟨a,0,none⟩)) (fun _=>True) (fun _=>[ckB a (jn t u),ckB kb u]):=by
 refine kQ (n:=12) Tryz.func80 rfl rfl rfl ?_
 intro Γ w0
 simp only [argE,Ca,Na,Zd,Nat.reduceAdd]
 refine qL (qC (.q 0 (.done)) Kr ?_)
 refine qS rfl rfl rfl rfl (qR (qQ (qL (qL (qC (.q 0 (.q 1 (.done))) Kr ?_)))))
 refine qK rfl rfl rfl rfl (q_ne_nil rfl rfl rfl rfl υ'102 ?_)
 refine kB 6 rfl (v':=.bool true) rfl ?_
 refine qR (qQ (cK rfl ?_))
 refine qC (.q 0 (.q 1 ((.l 2 [] ((.l 3 [] (.done))))))) Kr ?_
 refine qK rfl rfl rfl rfl (qK rfl rfl rfl rfl (cL rfl rfl rfl rfl (sQ (us:=[_]) υ'108 ζ'102 rfl Tryz.zeroValue102 rfl rfl rfl) ?_))
 intro b9
 refine qV ?_
 have sp_1:=join1_spec a b9 kb t u
 refine qM rfl rfl rfl rfl rfl rfl Tryz.call106 (sp_1) Ts ?_
 rintro ⟨⟩ -
 try simp only [Ca,Na]
 refine qV (qR (qW [0] (e':=[(0,_)]) rfl ?_))
 refine qQ (qL (qC (.q 0 (.q 1 (.done))) Kr ?_))
 refine qK rfl rfl rfl rfl (qS rfl rfl rfl rfl (qR (qQ (qJ (kD rfl rfl (()) (by first | rfl | (first | rfl | (congr 1;done) | (congr 1 <;> first | rfl | omega | (simp;done) | (simp;omega)))) (by trivial) ?_)))))
 exact Tf
theorem joined_spec (a:Nat) (t:List Int) (k:Option Addr) (m:Option (List Int)):Spec Tryz.prog 80 [.pointer (some ⟨a,0,none⟩),.pointer k] [ckB a t,optR k m] (fun (_:Unit)=>.pointer (some ⟨a,0,none⟩)) (fun _=>True) (fun _=>[ckB a (mgF m t),optR k m]):=by
  cases m with
  | none =>
    intro Γ w s
    have hk:k=none:=by
      obtain ⟨h1,l1,a1,s1⟩:=s
      obtain ⟨h2,l2,a2,s2⟩:=s1
      exact a2
    subst hk
    exact (joined_none a t (optR none none::Γ) w s).mono fun e w' ⟨x,e1,hx,s',am⟩=>⟨x,e1,hx,s',am⟩
  | some u =>
    intro Γ w s
    have hk:∃ b,k=some ⟨b,0,none⟩:=by
      obtain ⟨h1,l1,a1,s1⟩:=s
      obtain ⟨h2,l2,⟨b,hb,a2⟩,s2⟩:=s1
      exact ⟨b,hb⟩
    obtain ⟨b,rfl⟩:=hk
    have conv:∀ {h:Hp},optR (some ⟨b,0,none⟩) (some u) h→ckB b u h:=fun q=>by
      obtain ⟨b2,e,q⟩:=q
      cases e;exact q
    have back:∀ {h:Hp},ckB b u h→optR (some ⟨b,0,none⟩) (some u) h:=fun q=>⟨b,rfl,q⟩
    have s2:Sat ([ckB a t,ckB b u]++Γ) (lh w):=Sat.cons_mono (fun h s=>Sat.head_mono (fun h q=>conv q) s) s
    exact (joined_some a b t u Γ w s2).mono fun e w' ⟨x,e1,hx,s',am⟩=>⟨x,e1,hx,Sat.cons_mono (fun h s=>Sat.head_mono (fun h q=>back q) s) s',am⟩
theorem more_spec (k:Int):Spec Tryz.prog 76 [.int .i64 k] [] (fun (_:Unit)=>.bool (decide (relK k))) (fun _=>True) (fun _=>[]):=by
 refine kQ (n:=17) Tryz.func76 rfl rfl rfl ?_
 intro Γ w0
 simp only [argE,Ca,Na,Zd,Nat.reduceAdd]
 refine qL (qC (.q 0 (.done)) Kr ?_)
 refine qS rfl rfl rfl rfl (qR (qQ (qL (qC (.q 0 (.q 1 (.q 2 (.q 3 (.q 4 (.q 5 (.q 6 (.q 7 (.q 8 (.q 9 (.q 10 (.q 11 (.q 12 (.q 13 (.q 14 (.done)))))))))))))))) Kr ?_))))
 refine qK rfl rfl rfl rfl (qB rfl rfl rfl rfl rfl (cP _ _ _ _) ?_)
 refine qK rfl rfl rfl rfl ?_
 refine cF 5 rfl (fun g_1=>?_) (fun g_1=>?_)
 ·
  refine qZ rfl rfl rfl rfl (qZ rfl rfl rfl rfl (kW rfl rfl rfl rfl rfl (qK rfl rfl rfl rfl (qZ rfl rfl rfl rfl (qZ rfl rfl rfl rfl (kW rfl rfl rfl rfl rfl (qK rfl rfl rfl rfl (qZ rfl rfl rfl rfl ?_))))))))
  refine qZ rfl rfl rfl rfl (kW rfl rfl rfl rfl rfl (qS rfl rfl rfl rfl (qR (qW [2] (e':=[(2,_)]) rfl ?_))))
  refine qQ (qJ (kD rfl rfl (()) (by congr 1;first | (symm;rw [decide_eq_true_eq];unfold relK;omega) | (rw [decide_eq_decide];unfold relK;omega)) (by trivial) ?_))
  exact Tf
 refine qK rfl rfl rfl rfl (qB rfl rfl rfl rfl rfl (cP _ _ _ _) ?_)
 refine kN rfl rfl rfl rfl rfl (qK rfl rfl rfl rfl ?_)
 refine cF 9 rfl (fun g_2=>?_) (fun g_2=>?_)
 ·
  refine qZ rfl rfl rfl rfl (qZ rfl rfl rfl rfl (kW rfl rfl rfl rfl rfl (qK rfl rfl rfl rfl (qZ rfl rfl rfl rfl (qZ rfl rfl rfl rfl (kW rfl rfl rfl rfl rfl (qS rfl rfl rfl rfl (qR ?_))))))))
  refine qW [2] (e':=[(2,_)]) rfl ?_
  refine qQ (qJ (kD rfl rfl (()) (by congr 1;first | (symm;rw [decide_eq_true_eq];unfold relK;omega) | (rw [decide_eq_decide];unfold relK;omega)) (by trivial) ?_))
  exact Tf
 refine qK rfl rfl rfl rfl (qB rfl rfl rfl rfl rfl (cP _ _ _ _) ?_)
 refine kN rfl rfl rfl rfl rfl (qK rfl rfl rfl rfl ?_)
 refine cF 13 rfl (fun g_3=>?_) (fun g_3=>?_)
 ·
  refine qZ rfl rfl rfl rfl (qZ rfl rfl rfl rfl (kW rfl rfl rfl rfl rfl (qS rfl rfl rfl rfl (qR (qW [2] (e':=[(2,_)]) rfl ?_)))))
  refine qQ (qJ (kD rfl rfl (()) (by congr 1;first | (symm;rw [decide_eq_true_eq];unfold relK;omega) | (rw [decide_eq_decide];unfold relK;omega)) (by trivial) ?_))
  exact Tf
 refine qK rfl rfl rfl rfl (qB rfl rfl rfl rfl rfl (cP _ _ _ _) ?_)
 refine kN rfl rfl rfl rfl rfl (qS rfl rfl rfl rfl (qR (qW [2] (e':=[(2,_)]) rfl ?_)))
 refine qQ (qJ (kD rfl rfl (()) (by congr 1;first | (symm;rw [decide_eq_true_eq];unfold relK;omega) | (rw [decide_eq_decide];unfold relK;omega)) (by trivial) ?_))
 exact Tf
theorem round_yes (b n Rc:Nat) (c0 c1 c2 c3:Value) (Ra:Option Addr) (R:List KP) (o k:Int) (hn:R.length=n) (hnb:n≤4000000000000) (hex:∃ (j:Nat) (q:KP),R[j]?=some q∧q.1=o∧q.2.1=k):Spec Tryz.prog 84 [.pointer (some ⟨b,0,none⟩),.int .i64 o,.int .i64 k] [cells b 0 [c0,c1,c2,c3,.slice Ra n Rc],own 3 encK Ra Rc R] (fun (r:Nat)=>.int .i64 ((r:Nat):Int)) (fun r=>∃ q,R[r]?=some q∧q.1=o∧q.2.1=k) (fun r=>[cells b 0 [c0,c1,c2,c3,.slice Ra n Rc],own 3 encK Ra Rc R]):=by
 refine kQ (n:=40) Tryz.func84 rfl rfl rfl ?_
 intro Γ w0
 simp only [argE,Ca,Na,Zd,Nat.reduceAdd]
 refine qL (qC (.q 0 (.done)) Kr ?_)
 refine qS rfl rfl rfl rfl (qR (qQ (qL (qL (qC (.q 0 (.done)) Kr ?_)))))
 refine qS rfl rfl rfl rfl (qR (qQ (kC ?_)))
 refine cH (α:=Nat) (fun (i:Nat)=>i≤n∧(∀ j:Nat,j < i→∀ q,R[j]?=some q→¬ (q.1=o∧q.2.1=k))) (fun (i:Nat)=>[(7,.int .i64 ((i:Nat):Int))]) (fun (i:Nat)=>[]) (fun (i:Nat)=>n - i) [0,1,2] (er:=[(0,_),(1,_),(2,_)]) rfl (0) ?_ (by exact ⟨rfl,trivial⟩) (by (try dsimp only);(try simp only [Ad,Zd]);(repeat ((with_reducible apply Z2);focus (first | (with_reducible (repeat (first | exact Z0 | apply Z1));done) | (repeat (first | exact Z0 | apply Z1)))));exact Z3) ?_
 · exact ⟨Nat.zero_le _,fun j h=>by omega⟩
 rintro i ⟨hle_i,hI⟩
 try simp only [Ca,Na]
 refine qL (qL (qC (.q 0 (.q 1 (.q 2 (.q 3 (.q 4 (.q 5 (.q 6 (.done)))))))) Kr ?_))
 refine qK rfl rfl rfl rfl (qK rfl rfl rfl rfl (qX rfl rfl rfl rfl (qG (k:=4) rfl rfl rfl rfl υ'111 rfl ζ'109 rfl ?_)))
 refine qP (j:=4) rfl rfl rfl rfl α'109 Tk Az (by rfl) ?_
 refine cJ rfl rfl rfl rfl υ'109 ?_
 refine qB rfl rfl rfl rfl rfl (cB _ _ _ _) ?_
 refine qR (qW [0,1,2,7,14] (e':=[(0,_),(1,_),(2,_),(7,_),(14,_)]) rfl ?_)
 refine qQ ?_
 refine qD rfl (fun hlt=>?_) (fun hlt=>by exfalso;obtain ⟨j0,q0,hj0,e1,e2⟩:=hex;exact hI j0 (by have:=(List.getElem?_eq_some_iff.1 hj0).1;omega) q0 hj0 ⟨e1,e2⟩)
 refine qF (qQ (qL (kC (qL ?_))))
 obtain ⟨p,hp⟩:=cR (l:=R) (i:=i) Om
 refine qC (.q 0 (.q 1 (.q 2 (.q 3 (.q 4 (.q 5 (.q 6 (.q 7 (.q 8 (.q 9 (.q 10 (.q 11 (.q 12 (.q 13 (.q 14 (.q 15 (.q 16 (.q 17 (.q 18 (.q 19 (.q 20 (.q 21 (.done))))))))))))))))))))))) Kr ?_
 refine qK rfl rfl rfl rfl (qX rfl rfl rfl rfl (qG (k:=4) rfl rfl rfl rfl υ'111 rfl ζ'109 rfl ?_))
 refine qP (j:=4) rfl rfl rfl rfl α'109 Tk Az (by rfl) ?_
 refine qK rfl rfl rfl rfl (kF (sz:=2) (k:=i) (enc:=encK) (xs:=R) rfl rfl rfl rfl rfl υ'109 ζ'170 hp (by first | rfl | omega) Om Tk ?_)
 intro ib22 io22 ha22 hl22 hc22
 refine qG (k:=0) rfl rfl rfl rfl υ'170 rfl ζ'3 rfl ?_
 refine kS (v:=(.int .i64 p.1)) (j:=0) (k':=i) (enc:=encK) (off:=io22) rfl rfl rfl rfl α'3 ha22 encK_len hp Tk (by first | rfl | exact (Ad _).symm | omega) (by rfl) ?_
 refine qK rfl rfl rfl rfl (qB rfl rfl rfl rfl rfl (cP _ _ _ _) ?_)
 refine qK rfl rfl rfl rfl ?_
 refine cF 27 rfl (fun hne=>?_) (fun hne=>?_)
 ·
  refine qK rfl rfl rfl rfl (qX rfl rfl rfl rfl (qG (k:=4) rfl rfl rfl rfl υ'111 rfl ζ'109 rfl ?_))
  refine qP (j:=4) rfl rfl rfl rfl α'109 Tk Az (by rfl) ?_
  refine qK rfl rfl rfl rfl (kF (sz:=2) (k:=i) (enc:=encK) (xs:=R) rfl rfl rfl rfl rfl υ'109 ζ'170 hp (by first | rfl | omega) Om Tk ?_)
  intro ib33 io33 ha33 hl33 hc33
  refine qG (k:=1) rfl rfl rfl rfl υ'170 rfl ζ'3 rfl ?_
  refine kS (v:=(.int .i64 p.2.1)) (j:=1) (k':=i) (enc:=encK) (off:=io33) rfl rfl rfl rfl α'3 ha33 encK_len hp Tk (by first | rfl | exact (Ad _).symm | omega) (by rfl) ?_
  refine qK rfl rfl rfl rfl (qB rfl rfl rfl rfl rfl (cP _ _ _ _) ?_)
  refine kW rfl rfl rfl rfl rfl (qR (qW [0,1,2,7,28,29,30,31,32,33,34,35,36,37,38] (e':=[(0,_),(1,_),(2,_),(7,_),(28,_),(29,_),(30,_),(31,_),(32,_),(33,_),(34,_),(35,_),(36,_),(37,_),(38,_)]) rfl ?_))
  refine qQ ?_
  refine qD rfl (fun hne2=>?_) (fun hne2=>?_)
  ·
   refine qL (qC (.q 0 (.q 1 (.done))) Kr ?_)
   refine qK rfl rfl rfl rfl (qS rfl rfl rfl rfl (qR (qW [6] (e':=[(6,_)]) rfl ?_)))
   refine qQ (qJ (kM (qN (qN (kM (qN (kD rfl rfl (i) (by first | rfl | (first | rfl | (congr 1;done) | (congr 1 <;> first | rfl | omega | (simp;done) | (simp;omega)))) (by exact ⟨p,hp,hne,hne2⟩) ?_)))))))
   exact Tf
  refine qF (kX (qQ (qC (.q 0 (.q 1 (.q 2 (.done)))) Kr ?_)))
  refine qK rfl rfl rfl rfl (qB rfl rfl rfl rfl rfl (cV _ (by exact kP Om Om)) ?_)
  refine qS rfl rfl rfl rfl (qR (qQ ?_))
  refine kJ (x:=i) (i+1) ?_ ?_ ?_ ?_
  · exact ⟨by omega,fun j hj q hq=>(by
        by_cases e:j=i
        · subst e;rw [hp] at hq;cases hq;intro h9;first | exact hne h9.1 | exact hne2 h9.2
        · exact hI j Om q hq)⟩
  · show n - (i+1) < n - i;omega
  · exact ⟨rfl,rfl,rfl,rfl,trivial⟩
  · (try simp only [Ca,Na]);exact Tf
 refine qZ rfl rfl rfl rfl (qZ rfl rfl rfl rfl (qZ rfl rfl rfl rfl (qZ rfl rfl rfl rfl (qZ rfl rfl rfl rfl (qZ rfl rfl rfl rfl (qZ rfl rfl rfl rfl (qZ rfl rfl rfl rfl (qZ rfl rfl rfl rfl ?_))))))))
 refine qZ rfl rfl rfl rfl (kN rfl rfl rfl rfl rfl (qR (qW [0,1,2,7,28,29,30,31,32,33,34,35,36,37,38] (e':=[(0,_),(1,_),(2,_),(7,_),(28,_),(29,_),(30,_),(31,_),(32,_),(33,_),(34,_),(35,_),(36,_),(37,_),(38,_)]) rfl ?_)))
 refine qQ (kZ rfl ?_)
 refine qF (kX (qQ (qC (.q 0 (.q 1 (.q 2 (.done)))) Kr ?_)))
 refine qK rfl rfl rfl rfl (qB rfl rfl rfl rfl rfl (cV _ (by exact kP Om Om)) ?_)
 refine qS rfl rfl rfl rfl (qR (qQ ?_))
 refine kJ (x:=i) (i+1) ?_ ?_ ?_ ?_
 · exact ⟨by omega,fun j hj q hq=>(by
       by_cases e:j=i
       · subst e;rw [hp] at hq;cases hq;intro h9;first | exact hne h9.1 | exact hne2 h9.2
       · exact hI j Om q hq)⟩
 · show n - (i+1) < n - i;omega
 · exact ⟨rfl,rfl,rfl,rfl,trivial⟩
 · (try simp only [Ca,Na]);exact Tf
theorem round_no (b n Rc:Nat) (c0 c1 c2 c3:Value) (Ra:Option Addr) (R:List KP) (o k:Int) (hn:R.length=n) (hnb:n≤4000000000000) (hno:¬ ∃ (j:Nat) (q:KP),R[j]?=some q∧q.1=o∧q.2.1=k):Spec Tryz.prog 84 [.pointer (some ⟨b,0,none⟩),.int .i64 o,.int .i64 k] [cells b 0 [c0,c1,c2,c3,.slice Ra n Rc],own 3 encK Ra Rc R] (fun (_:Unit)=>.int .i64 (-1)) (fun _=>True) (fun _=>[cells b 0 [c0,c1,c2,c3,.slice Ra n Rc],own 3 encK Ra Rc R]):=by
 refine kQ (n:=40) Tryz.func84 rfl rfl rfl ?_
 intro Γ w0
 simp only [argE,Ca,Na,Zd,Nat.reduceAdd]
 refine qL (qC (.q 0 (.done)) Kr ?_)
 refine qS rfl rfl rfl rfl (qR (qQ (qL (qL (qC (.q 0 (.done)) Kr ?_)))))
 refine qS rfl rfl rfl rfl (qR (qQ (kC ?_)))
 refine cH (α:=Nat) (fun (i:Nat)=>i≤n) (fun (i:Nat)=>[(7,.int .i64 ((i:Nat):Int))]) (fun (i:Nat)=>[]) (fun (i:Nat)=>n - i) [0,1,2] (er:=[(0,_),(1,_),(2,_)]) rfl (0) ?_ (by exact ⟨rfl,trivial⟩) (by (try dsimp only);(try simp only [Ad,Zd]);(repeat ((with_reducible apply Z2);focus (first | (with_reducible (repeat (first | exact Z0 | apply Z1));done) | (repeat (first | exact Z0 | apply Z1)))));exact Z3) ?_
 · exact Nat.zero_le _
 rintro i hle_i
 try simp only [Ca,Na]
 refine qL (qL (qC (.q 0 (.q 1 (.q 2 (.q 3 (.q 4 (.q 5 (.q 6 (.done)))))))) Kr ?_))
 refine qK rfl rfl rfl rfl (qK rfl rfl rfl rfl (qX rfl rfl rfl rfl (qG (k:=4) rfl rfl rfl rfl υ'111 rfl ζ'109 rfl ?_)))
 refine qP (j:=4) rfl rfl rfl rfl α'109 Tk Az (by rfl) ?_
 refine cJ rfl rfl rfl rfl υ'109 ?_
 refine qB rfl rfl rfl rfl rfl (cB _ _ _ _) ?_
 refine qR (qW [0,1,2,7,14] (e':=[(0,_),(1,_),(2,_),(7,_),(14,_)]) rfl ?_)
 refine qQ ?_
 refine qD rfl (fun hlt=>?_) (fun hlt=>?_)
 ·
  refine qF (qQ (qL (kC (qL ?_))))
  obtain ⟨p,hp⟩:=cR (l:=R) (i:=i) Om
  refine qC (.q 0 (.q 1 (.q 2 (.q 3 (.q 4 (.q 5 (.q 6 (.q 7 (.q 8 (.q 9 (.q 10 (.q 11 (.q 12 (.q 13 (.q 14 (.q 15 (.q 16 (.q 17 (.q 18 (.q 19 (.q 20 (.q 21 (.done))))))))))))))))))))))) Kr ?_
  refine qK rfl rfl rfl rfl (qX rfl rfl rfl rfl (qG (k:=4) rfl rfl rfl rfl υ'111 rfl ζ'109 rfl ?_))
  refine qP (j:=4) rfl rfl rfl rfl α'109 Tk Az (by rfl) ?_
  refine qK rfl rfl rfl rfl (kF (sz:=2) (k:=i) (enc:=encK) (xs:=R) rfl rfl rfl rfl rfl υ'109 ζ'170 hp (by first | rfl | omega) Om Tk ?_)
  intro ib22 io22 ha22 hl22 hc22
  refine qG (k:=0) rfl rfl rfl rfl υ'170 rfl ζ'3 rfl ?_
  refine kS (v:=(.int .i64 p.1)) (j:=0) (k':=i) (enc:=encK) (off:=io22) rfl rfl rfl rfl α'3 ha22 encK_len hp Tk (by first | rfl | exact (Ad _).symm | omega) (by rfl) ?_
  refine qK rfl rfl rfl rfl (qB rfl rfl rfl rfl rfl (cP _ _ _ _) ?_)
  refine qK rfl rfl rfl rfl ?_
  refine cF 27 rfl (fun hne=>?_) (fun hne=>?_)
  ·
   refine qK rfl rfl rfl rfl (qX rfl rfl rfl rfl (qG (k:=4) rfl rfl rfl rfl υ'111 rfl ζ'109 rfl ?_))
   refine qP (j:=4) rfl rfl rfl rfl α'109 Tk Az (by rfl) ?_
   refine qK rfl rfl rfl rfl (kF (sz:=2) (k:=i) (enc:=encK) (xs:=R) rfl rfl rfl rfl rfl υ'109 ζ'170 hp (by first | rfl | omega) Om Tk ?_)
   intro ib33 io33 ha33 hl33 hc33
   refine qG (k:=1) rfl rfl rfl rfl υ'170 rfl ζ'3 rfl ?_
   refine kS (v:=(.int .i64 p.2.1)) (j:=1) (k':=i) (enc:=encK) (off:=io33) rfl rfl rfl rfl α'3 ha33 encK_len hp Tk (by first | rfl | exact (Ad _).symm | omega) (by rfl) ?_
   refine qK rfl rfl rfl rfl (qB rfl rfl rfl rfl rfl (cP _ _ _ _) ?_)
   refine kW rfl rfl rfl rfl rfl (qR (qW [0,1,2,7,28,29,30,31,32,33,34,35,36,37,38] (e':=[(0,_),(1,_),(2,_),(7,_),(28,_),(29,_),(30,_),(31,_),(32,_),(33,_),(34,_),(35,_),(36,_),(37,_),(38,_)]) rfl ?_))
   refine qQ ?_
   refine qD rfl (fun hg=>by exfalso;exact hno ⟨i,p,hp,hne,hg⟩) (fun hg=>?_)
   refine qF (kX (qQ (qC (.q 0 (.q 1 (.q 2 (.done)))) Kr ?_)))
   refine qK rfl rfl rfl rfl (qB rfl rfl rfl rfl rfl (cV _ (by exact kP Om Om)) ?_)
   refine qS rfl rfl rfl rfl (qR (qQ ?_))
   refine kJ (x:=i) (i+1) ?_ ?_ ?_ ?_
   · exact by show i+1≤n;omega
   · show n - (i+1) < n - i;omega
   · exact ⟨rfl,rfl,rfl,rfl,trivial⟩
   · (try simp only [Ca,Na]);exact Tf
  refine qZ rfl rfl rfl rfl (qZ rfl rfl rfl rfl (qZ rfl rfl rfl rfl (qZ rfl rfl rfl rfl (qZ rfl rfl rfl rfl (qZ rfl rfl rfl rfl (qZ rfl rfl rfl rfl (qZ rfl rfl rfl rfl (qZ rfl rfl rfl rfl ?_))))))))
  refine qZ rfl rfl rfl rfl (kN rfl rfl rfl rfl rfl (qR (qW [0,1,2,7,28,29,30,31,32,33,34,35,36,37,38] (e':=[(0,_),(1,_),(2,_),(7,_),(28,_),(29,_),(30,_),(31,_),(32,_),(33,_),(34,_),(35,_),(36,_),(37,_),(38,_)]) rfl ?_)))
  refine qQ (kZ rfl ?_)
  refine qF (kX (qQ (qC (.q 0 (.q 1 (.q 2 (.done)))) Kr ?_)))
  refine qK rfl rfl rfl rfl (qB rfl rfl rfl rfl rfl (cV _ (by exact kP Om Om)) ?_)
  refine qS rfl rfl rfl rfl (qR (qQ ?_))
  refine kJ (x:=i) (i+1) ?_ ?_ ?_ ?_
  · exact by show i+1≤n;omega
  · show n - (i+1) < n - i;omega
  · exact ⟨rfl,rfl,rfl,rfl,trivial⟩
  · (try simp only [Ca,Na]);exact Tf
 refine cW (qY (qY (kK (qQ (qL (qC (.q 0 (.done)) Kr ?_))))))
 refine qS rfl rfl rfl rfl (qR (qW [6] (e':=[(6,_)]) rfl ?_))
 refine qQ (qJ (kD rfl rfl (()) (by first | rfl | (first | rfl | (congr 1;done) | (congr 1 <;> first | rfl | omega | (simp;done) | (simp;omega)))) (by trivial) ?_))
 exact Tf
theorem keep_yes (b Rc tb:Nat) (c0 c1 c2 c3:Value) (Ra:Option Addr) (R:List KP) (Y:List RK) (o k:Int) (t:List Int) (hRY:R.length=Y.length) (hnb:R.length≤4000000000000) (hex:∃ (j:Nat) (q:KP),R[j]?=some q∧q.1=o∧q.2.1=k):Spec Tryz.prog 82 [.pointer (some ⟨b,0,none⟩),.int .i64 o,.int .i64 k,.pointer (some ⟨tb,0,none⟩)] [cells b 0 [c0,c1,c2,c3,.slice Ra R.length Rc],own 3 encK Ra Rc R,restL krA R Y [],ckB tb t] (fun (r:Nat)=>.tuple #[]) (fun r=>∃ q,Y[r]?=some q∧q.1=o∧q.2.1=k) (fun r=>[cells b 0 [c0,c1,c2,c3,.slice Ra R.length Rc],own 3 encK Ra Rc R,restL krA R (Y.set r ((Y.getD r (0,0,[])).1,(Y.getD r (0,0,[])).2.1,mgF (some t) (Y.getD r (0,0,[])).2.2)) [],ckB tb t]):=by
 refine kQ (n:=46) Tryz.func82 rfl rfl rfl ?_
 intro Γ w0
 simp only [argE,Ca,Na,Zd,Nat.reduceAdd]
 refine qL (qC (.q 0 (.q 1 (.q 2 ((.l 3 [] (.q 4 (.done))))))) Kr ?_)
 refine qK rfl rfl rfl rfl (qK rfl rfl rfl rfl (qK rfl rfl rfl rfl ?_))
 have sp_1:=round_yes b R.length Rc c0 c1 c2 c3 Ra R o k Ln Om hex
 refine qM rfl rfl rfl rfl rfl rfl κ'84 (sp_1) Ts ?_
 rintro ri ⟨rq,hrq,hrq1,hrq2⟩
 have hril:=(List.getElem?_eq_some_iff.1 hrq).1
 try simp only [Ca,Na]
 refine qV ?_
 have hyl:=List.getElem?_eq_getElem (l:=Y) (i:=ri) Om
 obtain ⟨y,hy⟩:∃ y,Y[ri]?=some y:=⟨_,hyl⟩
 refine cZ (res:=krA) (V:=R) (Y:=Y) (S:=[]) ri Tk (by simp) hy fun v hv=>?_
 have hvq:v=rq:=by rw [hrq] at hv;cases hv;rfl
 subst hvq
 refine s_kr Tk fun rb hrb=>?_
 subst hrb
 simp only at hrq1 hrq2
 refine qS rfl rfl rfl rfl (qR (qW [0,1,2,3,8] (e':=[(0,_),(1,_),(2,_),(3,_),(8,_)]) rfl ?_))
 refine qQ (qL (qL (qC (.q 0 (.q 1 (.done))) Kr ?_)))
 refine qK rfl rfl rfl rfl (qB rfl rfl rfl rfl rfl (cB _ _ _ _) ?_)
 refine qR (qQ ?_)
 refine qD rfl (fun hg=>by exfalso;omega) (fun hg=>?_)
 refine qF (qQ (kL rfl (.q 0 (.q 1 (.q 2 (.q 3 (.q 4 (.q 5 (.q 6 (.q 7 (.q 8 (.q 9 (.q 10 (.q 11 (.q 12 (.q 13 ((.l 14 [3] (.q 15 (.q 16 ((.l 17 [] (.done))))))))))))))))))))) Kr ?_))
 refine qK rfl rfl rfl rfl (qX rfl rfl rfl rfl (qG (k:=4) rfl rfl rfl rfl υ'111 rfl ζ'109 rfl ?_))
 refine qP (j:=4) rfl rfl rfl rfl α'109 Tk Az (by rfl) ?_
 refine qK rfl rfl rfl rfl (qK rfl rfl rfl rfl (qX rfl rfl rfl rfl (qG (k:=4) rfl rfl rfl rfl υ'111 rfl ζ'109 rfl ?_)))
 refine qP (j:=4) rfl rfl rfl rfl α'109 Tk Az (by rfl) ?_
 refine qK rfl rfl rfl rfl (kF (sz:=2) (k:=ri) (enc:=encK) (xs:=R) rfl rfl rfl rfl rfl υ'109 ζ'170 hrq (by first | rfl | omega) Om Tk ?_)
 intro ib39 io39 ha39 hl39 hc39
 refine qG (k:=2) rfl rfl rfl rfl υ'170 rfl ζ'102 rfl ?_
 refine kS (v:=(.pointer (some ⟨rb,0,none⟩))) (j:=2) (k':=ri) (enc:=encK) (off:=io39) rfl rfl rfl rfl α'102 ha39 encK_len hrq Tk (by first | rfl | exact (Ad _).symm | omega) (by rfl) ?_
 refine qK rfl rfl rfl rfl (optR_someF (b:=tb) (t:=t) Tk ?_)
 have sp_2:=joined_spec rb y.2.2 (some ⟨tb,0,none⟩:Option Addr) (some t)
 refine qM rfl rfl rfl rfl rfl rfl κ'80 (sp_2) Ts ?_
 rintro ⟨⟩ -
 try simp only [Ca,Na]
 refine qH (q:=4) rfl rfl rfl α'109 Tk Az (by rfl) ?_
 refine qV (optR_some (a:=(some ⟨tb,0,none⟩)) (t:=t) Tk fun tb_ htb_=>?_)
 cases htb_
 refine kF (sz:=2) (k:=ri) (enc:=encK) (xs:=R) rfl rfl rfl rfl rfl υ'109 ζ'170 hrq (by first | rfl | omega) Om Tk ?_
 intro ib44 io44 ha44 hl44 hc44
 refine qG (k:=2) rfl rfl rfl rfl υ'170 rfl ζ'102 rfl ?_
 refine sK (j:=2) (k:=ri) (q:=(y.1,y.2.1,some ⟨rb,0,none⟩)) (enc:=encK) (off:=io44) rfl rfl rfl rfl ζ'102 (us:=[_]) rfl rfl rfl ha44 encK_len hrq Tk (by first | rfl | exact (Ad _).symm | omega) (by first | decide | exact Nat.le_of_ble_eq_true rfl) (by rfl) ?_
 refine qV ?_
 rw [set_sameL hrq]
 refine qR (qW [] (e':=[]) rfl ?_)
 refine sH ?_
 refine s_krF rb (y.1,y.2.1,mgF (some t) y.2.2) Td ?_
 refine cD (res:=krA) (V:=R) (Y:=Y) (S:=[]) ri (y.1,y.2.1,some ⟨rb,0,none⟩) (y.1,y.2.1,mgF (some t) y.2.2) Ts (by simp) hril Om ?_
 rw [set_sameL hrq]
 refine ret0 rfl (ri) (by first | rfl | (first | rfl | (congr 1;done) | (congr 1 <;> first | rfl | omega | (simp;done) | (simp;omega)))) (by exact ⟨y,hy,hrq1,hrq2⟩) ?_
 rw [show Y.getD ri (0,0,[])=y from by rw [List.getD_eq_getElem?_getD,hy];rfl]
 exact Tf
theorem keep_no (b Rc tb:Nat) (c0 c1 c2 c3:Value) (Ra:Option Addr) (R:List KP) (Y:List RK) (o k:Int) (t:List Int) (hRY:R.length=Y.length) (hnb:R.length≤4000000000000) (hno:¬ ∃ (j:Nat) (q:KP),R[j]?=some q∧q.1=o∧q.2.1=k):Spec Tryz.prog 82 [.pointer (some ⟨b,0,none⟩),.int .i64 o,.int .i64 k,.pointer (some ⟨tb,0,none⟩)] [cells b 0 [c0,c1,c2,c3,.slice Ra R.length Rc],own 3 encK Ra Rc R,restL krA R Y [],ckB tb t] (fun (r:Nat × Option Addr × Nat)=>.tuple #[]) (fun r=>True) (fun r=>[cells b 0 [c0,c1,c2,c3,.slice r.2.1 (R.length+1) r.2.2],own 3 encK r.2.1 r.2.2 (R++[((o,k,some ⟨r.1,0,none⟩):KP)]),restL krA (R++[((o,k,some ⟨r.1,0,none⟩):KP)]) (Y++[((o,k,t):RK)]) [],ckB tb t]):=by
 refine kQ (n:=46) Tryz.func82 rfl rfl rfl ?_
 intro Γ w0
 simp only [argE,Ca,Na,Zd,Nat.reduceAdd]
 refine qL (qC (.q 0 (.q 1 (.q 2 ((.l 3 [] (.q 4 (.done))))))) Kr ?_)
 refine qK rfl rfl rfl rfl (qK rfl rfl rfl rfl (qK rfl rfl rfl rfl ?_))
 have sp_1:=round_no b R.length Rc c0 c1 c2 c3 Ra R o k Ln Om hno
 refine qM rfl rfl rfl rfl rfl rfl κ'84 (sp_1) Ts ?_
 rintro ⟨⟩ -
 try simp only [Ca,Na]
 refine qV (qS rfl rfl rfl rfl (qR (qW [0,1,2,3,8] (e':=[(0,_),(1,_),(2,_),(3,_),(8,_)]) rfl ?_)))
 refine qQ (qL (qL (qC (.q 0 (.q 1 (.done))) Kr ?_)))
 refine qK rfl rfl rfl rfl (qB rfl rfl rfl rfl rfl (cB _ _ _ _) ?_)
 refine kB 14 rfl (v':=.bool true) (by first | rfl | simp) ?_
 refine qR (qQ (cK rfl ?_))
 refine qL (kL rfl (.q 0 (.q 1 (.q 2 (.q 3 (.q 4 (.q 5 (.q 6 (.q 7 ((.l 8 [4] (.q 9 ((.l 10 [4] ((.l 11 [] (.q 12 (.q 13 ((.l 14 [] (.done)))))))))))))))))))) Kr ?_)
 refine qK rfl rfl rfl rfl (qK rfl rfl rfl rfl (qX rfl rfl rfl rfl (qG (k:=4) rfl rfl rfl rfl υ'111 rfl ζ'109 rfl ?_)))
 refine qP (j:=4) rfl rfl rfl rfl α'109 Tk Az (by rfl) ?_
 refine qK rfl rfl rfl rfl (qK rfl rfl rfl rfl (qK rfl rfl rfl rfl ?_))
 have sp_2:=Rv.copy_spec tb t
 refine qM rfl rfl rfl rfl rfl rfl κ'44 (sp_2) Ts ?_
 rintro qb -
 try simp only [Ca,Na]
 refine qH (q:=4) rfl rfl rfl α'109 Tk Az (by rfl) ?_
 refine qV (cC rfl rfl rfl rfl (vs:=[_,_,_]) (kV υ'170 ω'170 (ps:=[(0,1),(1,1),(2,1)]) ⟨rfl,ζ'3,rfl,ζ'3,rfl,ζ'102,trivial⟩ rfl) ?_)
 refine cL rfl rfl rfl rfl (sQ (us:=[_,_,_]) υ'109 ζ'170 rfl ω'170 rfl rfl rfl) ?_
 intro b25
 refine qH (q:=4) rfl rfl rfl α'109 Tk Az (by rfl) ?_
 refine qV (sG (sz:=3) (enc:=encK) (xs:=R) rfl rfl rfl rfl rfl υ'109 Tryz.typeInfo170 rfl rfl rfl (by decide) Tk Tk (by first | rfl | omega | (simp;done) | (simp;omega)) (ys:=[((o,k,some ⟨qb,0,none⟩):KP)]) (sX sS) (by rfl) (by first | rfl | omega) (encK_len) (encK_one) Om (by show _*24≤_;omega) ?_)
 intro ra2 rc2
 refine qV (qX rfl rfl rfl rfl (qG (k:=4) rfl rfl rfl rfl υ'111 rfl ζ'109 rfl ?_))
 refine kH (j:=4) rfl rfl rfl rfl ζ'109 (us:=[_]) rfl rfl rfl Tk Az (by first | decide | (simp;done) | omega) ?_
 simp only [setL,List.set]
 refine qV (qR (qW [] (e':=[]) rfl ?_))
 refine qQ (qJ (qN (s_krF qb (o,k,t) Td ?_)))
 refine s_restL_push (res:=krA) (V:=R) (Y:=Y) ((o,k,some ⟨qb,0,none⟩):KP) ((o,k,t):RK) Ts hRY ?_
 refine ret0 rfl ((qb,ra2,rc2)) (by first | rfl | (first | rfl | (congr 1;done) | (congr 1 <;> first | rfl | omega | (simp;done) | (simp;omega)))) (by trivial) ?_
 exact Tf
end Go.Ab.Rv
set_option linter.unusedVariables false
set_option linter.unusedSimpArgs false
set_option maxRecDepth 100000
namespace Go.Ab.Rv
open Go Go.Proofs Go.Ab Go.Ab.Fe Go.Ab.Vc Go.Ab.Dj
theorem s_krk {w0:World} {ds:List Deferred} {n:Nat} {e:Env} {Γ Γ':List HProp} {X:Act→World→Prop} {V:List KP} {Y:List RK} (tk:Take Γ (restL krA V Y []) Γ') (k:(∀ (j:Nat) v y,V[j]?=some v→Y[j]?=some y→v.1=y.1∧v.2.1=y.2.1)→Le (St w0 ds n e Γ) X):Le (St w0 ds n e Γ) X :=
  s_know (p:=∀ (j:Nat) v y,V[j]?=some v→Y[j]?=some y→v.1=y.1∧v.2.1=y.2.1) (fun h s j v y hv hy=>by
    obtain ⟨v',hv',s'⟩:=rest_take (F:=fun i:Nat=>V[i]?) (T:=fun i:Nat=>Y[i]?) (k:=j) (by simp) hy (tk h s)
    rw [hv] at hv';cases hv'
    obtain ⟨h1,l1,a1⟩:=s'.head
    exact ⟨a1.1,a1.2.1⟩) k
theorem clock_spec (pa:Option Addr) (pc b:Nat) (x:VS) (hx:VInv x) (t:Nat) (l:List Int) (hth:x.th ((t:Nat):Int)=some l):Spec Tryz.prog 39 [.pointer (some ⟨b,0,none⟩),.int .i64 ((t:Nat):Int)] [rvR pa pc b x] (fun (_:Unit)=>.int .u64 (l.getD t 0)) (fun _=>True) (fun _=>[rvR pa pc b x]):=by
 refine kQ (n:=25) Tryz.func39 rfl rfl rfl ?_
 intro Γ w0
 simp only [argE,Ca,Na,Zd,Nat.reduceAdd]
 refine qL (qC (.q 0 (.done)) Kr ?_)
 refine qS rfl rfl rfl rfl (qR (qQ (qL (qL (rv_open (pa:=pa) (pc:=pc) (b:=b) (x:=x) Tk fun cb Ta Tc La Lc Oa Oc Ra Rc VT VL VO VR YR hVT hVL hVO hVR hK=>?_)))))
 have hTl:=hx.ck.tl
 obtain ⟨-,hts_,-⟩:=stF_nz (x:=x.ck) (t:=((t:Nat):Int)) ((hx.th _).1 (by rw [hth];rfl))
 rw [Int.toNat_natCast] at hts_
 have htt:(tabF x.ck.th.toNat x.th)[t]?=some (some l):=by rw [tab_get Om,hth]
 refine cZ (res:=optR) (V:=VT) (Y:=tabF x.ck.th.toNat x.th) (S:=[]) t Tk (by simp) htt fun ta hta=>?_
 refine optR_some (a:=ta) (t:=l) Tk fun tb htb=>?_
 subst htb
 refine qC (.q 0 (.q 1 (.q 2 (.q 3 (.q 4 (.q 5 (.q 6 (.q 7 (.q 8 (.q 9 (.q 10 (.done)))))))))))) Kr ?_
 refine qK rfl rfl rfl rfl (qB rfl rfl rfl rfl rfl (cB _ _ _ _) ?_)
 refine qK rfl rfl rfl rfl ?_
 refine cF 7 rfl (fun hg=>by exfalso;omega) (fun hg=>?_)
 refine qK rfl rfl rfl rfl (qK rfl rfl rfl rfl (qX rfl rfl rfl rfl (qG (k:=1) rfl rfl rfl rfl υ'111 rfl ζ'108 rfl ?_)))
 refine qP (j:=1) rfl rfl rfl rfl α'108 Tk Az (by rfl) ?_
 refine cJ rfl rfl rfl rfl υ'108 ?_
 refine qB rfl rfl rfl rfl rfl (b_geq _ _ _ _) ?_
 refine kN rfl rfl rfl rfl rfl (qR (qW [0,1,15] (e':=[(0,_),(1,_),(15,_)]) rfl ?_))
 refine qQ ?_
 refine qD rfl (fun hg=>by exfalso;omega) (fun hg=>?_)
 refine qF (qQ (qL (qC (.q 0 (.q 1 (.q 2 (.q 3 (.q 4 (.q 5 (.q 6 (.q 7 ((.l 8 [] (.q 9 (.done)))))))))))) Kr ?_)))
 refine qK rfl rfl rfl rfl (qX rfl rfl rfl rfl (qG (k:=1) rfl rfl rfl rfl υ'111 rfl ζ'108 rfl ?_))
 refine qP (j:=1) rfl rfl rfl rfl α'108 Tk Az (by rfl) ?_
 refine qK rfl rfl rfl rfl (kF (sz:=0) (k:=t) (enc:=encA) (xs:=VT) rfl rfl rfl rfl rfl υ'108 ζ'102 hta (by first | rfl | omega) Om Tk ?_)
 intro ib21 io21 ha21 hl21 hc21
 refine kS (v:=(.pointer (some ⟨tb,0,none⟩))) (j:=0) (k':=t) (enc:=encA) (off:=io21) rfl rfl rfl rfl α'102 ha21 encA_len hta Tk (by first | rfl | exact (Ad _).symm | omega) (by rfl) ?_
 refine qK rfl rfl rfl rfl ?_
 have sp_1:=Rv.get_spec tb l t
 refine qM rfl rfl rfl rfl rfl rfl κ'77 (sp_1) Ts ?_
 rintro ⟨⟩ -
 try simp only [Ca,Na]
 refine qV (qS rfl rfl rfl rfl (qR (qW [4] (e':=[(4,_)]) rfl ?_)))
 refine qQ (qJ (optR_someF (b:=tb) (t:=l) Tk ?_))
 refine cY (res:=optR) (V:=VT) (Y:=tabF x.ck.th.toNat x.th) (S:=[]) t Ts (by simp) hta htt ?_
 refine rv_fold (b:=b) x (pa:=pa) (pc:=pc) (cb:=cb) (Ta:=Ta) (Tc:=Tc) (La:=La) (Lc:=Lc) (Oa:=Oa) (Oc:=Oc) (Ra:=Ra) (Rc:=Rc) (VT:=VT) (VL:=VL) (VO:=VO) (VR:=VR) (YR:=YR) Ts (by first | rfl | simp) (by first | rfl | simp) (by first | rfl | simp) (by first | rfl | simp) rfl rfl rfl rfl hVT hVL hVO hVR hK ?_
 refine kD rfl rfl (()) (by first | rfl | (first | rfl | (congr 1;done) | (congr 1 <;> first | rfl | omega | (simp;done) | (simp;omega)))) (by trivial) ?_
 exact Tf
theorem vlist_some (pa:Option Addr) (pc b:Nat) (x:VS) (hx:VInv x) (t:Nat) (l:List Int) (hth:x.th ((t:Nat):Int)=some l):Spec Tryz.prog 94 [.pointer (some ⟨b,0,none⟩),.int .i64 ((t:Nat):Int)] [rvR pa pc b x] (fun (r:Option Addr × Nat)=>.slice r.1 l.length r.2) (fun r=>True) (fun r=>[rvR pa pc b x,own 1 encU r.1 r.2 l]):=by
 refine kQ (n:=24) Tryz.func94 rfl rfl rfl ?_
 intro Γ w0
 simp only [argE,Ca,Na,Zd,Nat.reduceAdd]
 refine qL (qC (.q 0 (.done)) Kr ?_)
 refine qS rfl rfl rfl rfl (qR (qQ (qL (qL (rv_open (pa:=pa) (pc:=pc) (b:=b) (x:=x) Tk fun cb Ta Tc La Lc Oa Oc Ra Rc VT VL VO VR YR hVT hVL hVO hVR hK=>?_)))))
 have hTl:=hx.ck.tl
 obtain ⟨-,hts_,-⟩:=stF_nz (x:=x.ck) (t:=((t:Nat):Int)) ((hx.th _).1 (by rw [hth];rfl))
 rw [Int.toNat_natCast] at hts_
 have htt:(tabF x.ck.th.toNat x.th)[t]?=some (some l):=by rw [tab_get Om,hth]
 refine cZ (res:=optR) (V:=VT) (Y:=tabF x.ck.th.toNat x.th) (S:=[]) t Tk (by simp) htt fun ta hta=>?_
 refine optR_some (a:=ta) (t:=l) Tk fun tb htb=>?_
 subst htb
 refine qC (.q 0 (.q 1 (.q 2 (.q 3 (.q 4 (.q 5 (.q 6 (.q 7 (.q 8 (.q 9 (.q 10 (.done)))))))))))) Kr ?_
 refine qK rfl rfl rfl rfl (qB rfl rfl rfl rfl rfl (cB _ _ _ _) ?_)
 refine qK rfl rfl rfl rfl ?_
 refine cF 7 rfl (fun hg=>by exfalso;omega) (fun hg=>?_)
 refine qK rfl rfl rfl rfl (qK rfl rfl rfl rfl (qX rfl rfl rfl rfl (qG (k:=1) rfl rfl rfl rfl υ'111 rfl ζ'108 rfl ?_)))
 refine qP (j:=1) rfl rfl rfl rfl α'108 Tk Az (by rfl) ?_
 refine cJ rfl rfl rfl rfl υ'108 ?_
 refine qB rfl rfl rfl rfl rfl (b_geq _ _ _ _) ?_
 refine kN rfl rfl rfl rfl rfl (qR (qW [0,1,15] (e':=[(0,_),(1,_),(15,_)]) rfl ?_))
 refine qQ ?_
 refine qD rfl (fun hg=>by exfalso;omega) (fun hg=>?_)
 refine qF (qQ (qL (qC (.q 0 (.q 1 (.q 2 (.q 3 (.q 4 (.q 5 (.q 6 ((.l 7 [] (.q 8 (.done))))))))))) Kr ?_)))
 refine qK rfl rfl rfl rfl (qX rfl rfl rfl rfl (qG (k:=1) rfl rfl rfl rfl υ'111 rfl ζ'108 rfl ?_))
 refine qP (j:=1) rfl rfl rfl rfl α'108 Tk Az (by rfl) ?_
 refine qK rfl rfl rfl rfl (kF (sz:=0) (k:=t) (enc:=encA) (xs:=VT) rfl rfl rfl rfl rfl υ'108 ζ'102 hta (by first | rfl | omega) Om Tk ?_)
 intro ib21 io21 ha21 hl21 hc21
 refine kS (v:=(.pointer (some ⟨tb,0,none⟩))) (j:=0) (k':=t) (enc:=encA) (off:=io21) rfl rfl rfl rfl α'102 ha21 encA_len hta Tk (by first | rfl | exact (Ad _).symm | omega) (by rfl) ?_
 have sp_1:=Rv.list_spec tb l
 refine qM rfl rfl rfl rfl rfl rfl κ'93 (sp_1) Ts ?_
 rintro ⟨qa,qc⟩ -
 try simp only [Ca,Na]
 refine qV (qS rfl rfl rfl rfl (qR (qW [4] (e':=[(4,_)]) rfl ?_)))
 refine qQ (qJ (optR_someF (b:=tb) (t:=l) Tk ?_))
 refine cY (res:=optR) (V:=VT) (Y:=tabF x.ck.th.toNat x.th) (S:=[]) t Ts (by simp) hta htt ?_
 refine rv_fold (b:=b) x (pa:=pa) (pc:=pc) (cb:=cb) (Ta:=Ta) (Tc:=Tc) (La:=La) (Lc:=Lc) (Oa:=Oa) (Oc:=Oc) (Ra:=Ra) (Rc:=Rc) (VT:=VT) (VL:=VL) (VO:=VO) (VR:=VR) (YR:=YR) Ts (by first | rfl | simp) (by first | rfl | simp) (by first | rfl | simp) (by first | rfl | simp) rfl rfl rfl rfl hVT hVL hVO hVR hK ?_
 refine kD rfl rfl ((qa,qc)) (by first | rfl | (first | rfl | (congr 1;done) | (congr 1 <;> first | rfl | omega | (simp;done) | (simp;omega)))) (by trivial) ?_
 exact Tf
theorem list_nil:Spec Tryz.prog 93 [.pointer none] [] (fun (_:Unit)=>.slice none 0 0) (fun _=>True) (fun _=>[]):=by
 refine kQ (n:=14) Tryz.func93 rfl rfl rfl ?_
 intro Γ w0
 simp only [argE,Ca,Na,Zd,Nat.reduceAdd]
 refine qL (qC (.q 0 (.done)) Kr ?_)
 refine qS rfl rfl rfl rfl (qR (qQ (qL (qL (qC (.q 0 (.q 1 (.done))) Kr ?_)))))
 refine qK rfl rfl rfl rfl (cG rfl rfl rfl rfl υ'102 ?_)
 refine kB 4 rfl (v':=.bool true) rfl ?_
 refine qR (qQ (cK rfl ?_))
 refine qL (qC (.q 0 (.done)) Kr ?_)
 refine qS rfl rfl rfl rfl (qR (qQ (qJ (qN (kD rfl rfl (()) (by first | rfl | (first | rfl | (congr 1;done) | (congr 1 <;> first | rfl | omega | (simp;done) | (simp;omega)))) (by trivial) ?_)))))
 exact Tf
theorem vlist_none (pa:Option Addr) (pc b:Nat) (x:VS) (hx:VInv x) (t:Nat) (ht:((t:Nat):Int) < x.ck.th) (hth:x.th ((t:Nat):Int)=none):Spec Tryz.prog 94 [.pointer (some ⟨b,0,none⟩),.int .i64 ((t:Nat):Int)] [rvR pa pc b x] (fun (_:Unit)=>.slice none 0 0) (fun _=>True) (fun _=>[rvR pa pc b x]):=by
 refine kQ (n:=24) Tryz.func94 rfl rfl rfl ?_
 intro Γ w0
 simp only [argE,Ca,Na,Zd,Nat.reduceAdd]
 refine qL (qC (.q 0 (.done)) Kr ?_)
 refine qS rfl rfl rfl rfl (qR (qQ (qL (qL (rv_open (pa:=pa) (pc:=pc) (b:=b) (x:=x) Tk fun cb Ta Tc La Lc Oa Oc Ra Rc VT VL VO VR YR hVT hVL hVO hVR hK=>?_)))))
 have hth_:=hx.ck.sh.th
 have htt:(tabF x.ck.th.toNat x.th)[t]?=some none:=by rw [tab_get Om,hth]
 refine cZ (res:=optR) (V:=VT) (Y:=tabF x.ck.th.toNat x.th) (S:=[]) t Tk (by simp) htt fun ta hta=>?_
 refine optR_none (a:=ta) Tk fun htb=>?_
 subst htb
 refine qC (.q 0 (.q 1 (.q 2 (.q 3 (.q 4 (.q 5 (.q 6 (.q 7 (.q 8 (.q 9 (.q 10 (.done)))))))))))) Kr ?_
 refine qK rfl rfl rfl rfl (qB rfl rfl rfl rfl rfl (cB _ _ _ _) ?_)
 refine qK rfl rfl rfl rfl ?_
 refine cF 7 rfl (fun hg=>by exfalso;omega) (fun hg=>?_)
 refine qK rfl rfl rfl rfl (qK rfl rfl rfl rfl (qX rfl rfl rfl rfl (qG (k:=1) rfl rfl rfl rfl υ'111 rfl ζ'108 rfl ?_)))
 refine qP (j:=1) rfl rfl rfl rfl α'108 Tk Az (by rfl) ?_
 refine cJ rfl rfl rfl rfl υ'108 ?_
 refine qB rfl rfl rfl rfl rfl (b_geq _ _ _ _) ?_
 refine kN rfl rfl rfl rfl rfl (qR (qW [0,1,15] (e':=[(0,_),(1,_),(15,_)]) rfl ?_))
 refine qQ ?_
 refine qD rfl (fun hg=>by exfalso;omega) (fun hg=>?_)
 refine qF (qQ (qL (qC (.q 0 (.q 1 (.q 2 (.q 3 (.q 4 (.q 5 (.q 6 ((.l 7 [] (.q 8 (.done))))))))))) Kr ?_)))
 refine qK rfl rfl rfl rfl (qX rfl rfl rfl rfl (qG (k:=1) rfl rfl rfl rfl υ'111 rfl ζ'108 rfl ?_))
 refine qP (j:=1) rfl rfl rfl rfl α'108 Tk Az (by rfl) ?_
 refine qK rfl rfl rfl rfl (kF (sz:=0) (k:=t) (enc:=encA) (xs:=VT) rfl rfl rfl rfl rfl υ'108 ζ'102 hta (by first | rfl | omega) Om Tk ?_)
 intro ib21 io21 ha21 hl21 hc21
 refine kS (v:=(.pointer none)) (j:=0) (k':=t) (enc:=encA) (off:=io21) rfl rfl rfl rfl α'102 ha21 encA_len hta Tk (by first | rfl | exact (Ad _).symm | omega) (by rfl) ?_
 refine qM rfl rfl rfl rfl rfl rfl κ'93 (list_nil) Ts ?_
 rintro ⟨⟩ -
 try simp only [Ca,Na]
 refine qV (qS rfl rfl rfl rfl (qR (qW [4] (e':=[(4,_)]) rfl ?_)))
 refine qQ (qJ (cY (res:=optR) (V:=VT) (Y:=tabF x.ck.th.toNat x.th) (S:=[]) t Ts (by simp) hta htt ?_))
 refine rv_fold (b:=b) x (pa:=pa) (pc:=pc) (cb:=cb) (Ta:=Ta) (Tc:=Tc) (La:=La) (Lc:=Lc) (Oa:=Oa) (Oc:=Oc) (Ra:=Ra) (Rc:=Rc) (VT:=VT) (VL:=VL) (VO:=VO) (VR:=VR) (YR:=YR) Ts (by first | rfl | simp) (by first | rfl | simp) (by first | rfl | simp) (by first | rfl | simp) rfl rfl rfl rfl hVT hVL hVO hVR hK ?_
 refine kD rfl rfl (()) (by first | rfl | (first | rfl | (congr 1;done) | (congr 1 <;> first | rfl | omega | (simp;done) | (simp;omega)))) (by trivial) ?_
 exact Tf
theorem vlist_out (pa:Option Addr) (pc b:Nat) (x:VS) (hx:VInv x) (z:Int) (hz:z < 0∨x.ck.th≤z):Spec Tryz.prog 94 [.pointer (some ⟨b,0,none⟩),.int .i64 z] [rvR pa pc b x] (fun (_:Unit)=>.slice none 0 0) (fun _=>True) (fun _=>[rvR pa pc b x]):=by
 refine kQ (n:=24) Tryz.func94 rfl rfl rfl ?_
 intro Γ w0
 simp only [argE,Ca,Na,Zd,Nat.reduceAdd]
 refine qL (qC (.q 0 (.done)) Kr ?_)
 refine qS rfl rfl rfl rfl (qR (qQ (qL (qL (rv_open (pa:=pa) (pc:=pc) (b:=b) (x:=x) Tk fun cb Ta Tc La Lc Oa Oc Ra Rc VT VL VO VR YR hVT hVL hVO hVR hK=>?_)))))
 have hth_:=hx.ck.sh.th
 refine qC (.q 0 (.q 1 (.q 2 (.q 3 (.q 4 (.q 5 (.q 6 (.q 7 (.q 8 (.q 9 (.q 10 (.done)))))))))))) Kr ?_
 refine qK rfl rfl rfl rfl (qB rfl rfl rfl rfl rfl (cB _ _ _ _) ?_)
 refine qK rfl rfl rfl rfl ?_
 refine cF 7 rfl (fun hz0=>?_) (fun hz0=>?_)
 ·
  refine qZ rfl rfl rfl rfl (qZ rfl rfl rfl rfl (qZ rfl rfl rfl rfl (qZ rfl rfl rfl rfl (qZ rfl rfl rfl rfl (qZ rfl rfl rfl rfl (qZ rfl rfl rfl rfl (kW rfl rfl rfl rfl rfl (qR ?_))))))))
  refine qW [0,1,15] (e':=[(0,_),(1,_),(15,_)]) rfl ?_
  refine qQ (cK rfl ?_)
  refine qL (qC (.q 0 (.done)) Kr ?_)
  refine qS rfl rfl rfl rfl (qR (qQ (qJ (qN (rv_fold (b:=b) x (pa:=pa) (pc:=pc) (cb:=cb) (Ta:=Ta) (Tc:=Tc) (La:=La) (Lc:=Lc) (Oa:=Oa) (Oc:=Oc) (Ra:=Ra) (Rc:=Rc) (VT:=VT) (VL:=VL) (VO:=VO) (VR:=VR) (YR:=YR) Ts (by first | rfl | simp) (by first | rfl | simp) (by first | rfl | simp) (by first | rfl | simp) rfl rfl rfl rfl hVT hVL hVO hVR hK ?_)))))
  refine kD rfl rfl (()) (by first | rfl | (first | rfl | (congr 1;done) | (congr 1 <;> first | rfl | omega | (simp;done) | (simp;omega)))) (by trivial) ?_
  exact Tf
 refine qK rfl rfl rfl rfl (qK rfl rfl rfl rfl (qX rfl rfl rfl rfl (qG (k:=1) rfl rfl rfl rfl υ'111 rfl ζ'108 rfl ?_)))
 refine qP (j:=1) rfl rfl rfl rfl α'108 Tk Az (by rfl) ?_
 refine cJ rfl rfl rfl rfl υ'108 ?_
 refine qB rfl rfl rfl rfl rfl (b_geq _ _ _ _) ?_
 refine kN rfl rfl rfl rfl rfl (qR (qW [0,1,15] (e':=[(0,_),(1,_),(15,_)]) rfl ?_))
 refine qQ ?_
 refine qD rfl (fun hg=>?_) (fun hg=>by exfalso;omega)
 refine qL (qC (.q 0 (.done)) Kr ?_)
 refine qS rfl rfl rfl rfl (qR (qQ (qJ (qN (rv_fold (b:=b) x (pa:=pa) (pc:=pc) (cb:=cb) (Ta:=Ta) (Tc:=Tc) (La:=La) (Lc:=Lc) (Oa:=Oa) (Oc:=Oc) (Ra:=Ra) (Rc:=Rc) (VT:=VT) (VL:=VL) (VO:=VO) (VR:=VR) (YR:=YR) Ts (by first | rfl | simp) (by first | rfl | simp) (by first | rfl | simp) (by first | rfl | simp) rfl rfl rfl rfl hVT hVL hVO hVR hK ?_)))))
 refine kD rfl rfl (()) (by first | rfl | (first | rfl | (congr 1;done) | (congr 1 <;> first | rfl | omega | (simp;done) | (simp;omega)))) (by trivial) ?_
 exact Tf
theorem vlist_spec (pa:Option Addr) (pc b:Nat) (x:VS) (hx:VInv x) (z:Int):Spec Tryz.prog 94 [.pointer (some ⟨b,0,none⟩),.int .i64 z] [rvR pa pc b x] (fun (r:Option Addr × Nat)=>.slice r.1 (thF x z).length r.2) (fun r=>True) (fun r=>[rvR pa pc b x,own 1 encU r.1 r.2 (thF x z)]):=by
  have fromNil:x.th z=none→Spec Tryz.prog 94 [.pointer (some ⟨b,0,none⟩),.int .i64 z] [rvR pa pc b x] (fun (_:Unit)=>.slice none 0 0) (fun _=>True) (fun _=>[rvR pa pc b x])→Spec Tryz.prog 94 [.pointer (some ⟨b,0,none⟩),.int .i64 z] [rvR pa pc b x] (fun (r:Option Addr × Nat)=>.slice r.1 (thF x z).length r.2) (fun r=>True) (fun r=>[rvR pa pc b x,own 1 encU r.1 r.2 (thF x z)]):=fun hth q=>by
    rw [show thF x z=[] from by rw [thF,hth];rfl]
    exact q.conseq (fun _ _ s=>s) (fun _ _=>⟨(none,0),rfl,trivial,fun Γ hp s=>(by
      have h:=sR (sz:=1) (enc:=encU) s
      exact h.swap)⟩)
  have hnz:x.th z=none∨∃ l,x.th z=some l:=by cases x.th z <;> simp
  rcases hnz with hth | ⟨l,hth⟩
  · by_cases hz:z < 0∨x.ck.th≤z
    · exact fromNil hth (vlist_out pa pc b x hx z hz)
    · obtain ⟨i,rfl⟩:=Int.eq_ofNat_of_zero_le (show 0≤z by omega)
      exact fromNil hth (vlist_none pa pc b x hx i Om hth)
  · obtain ⟨h0,-⟩:=th_rng hx ((hx.th z).1 (by rw [hth];rfl))
    obtain ⟨i,rfl⟩:=Int.eq_ofNat_of_zero_le h0
    rw [thF_eq hth]
    exact vlist_some pa pc b x hx i l hth
theorem vcan_spec (pa:Option Addr) (pc b:Nat) (x:VS) (hx:VInv x) (k t o:Int):Spec Tryz.prog 35 [.pointer (some ⟨b,0,none⟩),.agg #[.int .i64 k,.int .i64 t,.int .i64 o]] [rvR pa pc b x] (fun (_:Unit)=>.bool (decide (vcanF x k t o))) (fun _=>True) (fun _=>[rvR pa pc b x]):=by
 refine kQ (n:=24) Tryz.func35 rfl rfl rfl ?_
 intro Γ w0
 simp only [argE,Ca,Na,Zd,Nat.reduceAdd]
 refine qL (qC ((.l 0 [] (.q 1 (.done)))) Kr ?_)
 refine sP rfl rfl rfl rfl (us:=[_,_,_]) rfl ?_
 intro b3
 refine qV (qS rfl rfl rfl rfl (qR (qQ (qL (rv_open (pa:=pa) (pc:=pc) (b:=b) (x:=x) Tk fun cb Ta Tc La Lc Oa Oc Ra Rc VT VL VO VR YR hVT hVL hVO hVR hK=>?_)))))
 refine kL rfl (.q 0 (.q 1 (.q 2 (.q 3 (.q 4 ((.l 5 [] (.q 6 (.q 7 (.q 8 ((.l 9 [] (.q 10 (.q 11 (.q 12 (.q 13 (.q 14 ((.l 15 [] (.q 16 (.q 17 (.q 18 (.q 19 (.done)))))))))))))))))))))))) Kr ?_
 refine qK rfl rfl rfl rfl (qX rfl rfl rfl rfl (qG (k:=0) rfl rfl rfl rfl υ'111 rfl ζ'107 rfl ?_))
 refine qP (j:=0) rfl rfl rfl rfl α'107 Tk Az (by rfl) ?_
 refine kG rfl rfl rfl rfl α'47 ζ'47 Tk 0 (us:=[_,_,_]) Az rfl rfl ?_
 have sp_1:=Fe.rcan_spec pa pc cb x.ck hx.ck k t o
 refine qM rfl rfl rfl rfl rfl rfl Tryz.call75 (sp_1) Ts ?_
 rintro ⟨⟩ -
 try simp only [Ca,Na]
 refine qV (rv_fold (b:=b) x (pa:=pa) (pc:=pc) (cb:=cb) (Ta:=Ta) (Tc:=Tc) (La:=La) (Lc:=Lc) (Oa:=Oa) (Oc:=Oc) (Ra:=Ra) (Rc:=Rc) (VT:=VT) (VL:=VL) (VO:=VO) (VR:=VR) (YR:=YR) Ts (by first | rfl | simp) (by first | rfl | simp) (by first | rfl | simp) (by first | rfl | simp) rfl rfl rfl rfl hVT hVL hVO hVR hK ?_)
 refine qK rfl rfl rfl rfl ?_
 refine cF 11 rfl (fun hc=>?_) (fun hc=>?_)
 ·
  obtain ⟨l,hth⟩:=th_some hx (can_th hc)
  obtain ⟨h0_,h1_⟩:=th_rng hx (can_th hc)
  obtain ⟨i,rfl⟩:=Int.eq_ofNat_of_zero_le h0_
  have hlc:=hx.thc _ _ hth
  have hgg:=g_rng hlc.rng (by decide) i
  refine qG (k:=0) rfl rfl rfl rfl υ'47 rfl ζ'45 rfl ?_
  refine qP (j:=0) rfl rfl rfl rfl α'45 Tk Az (by rfl) ?_
  have sp_2:=Rv.more_spec k
  refine qM rfl rfl rfl rfl rfl rfl κ'76 (sp_2) Ts ?_
  rintro ⟨⟩ -
  try simp only [Ca,Na]
  refine qV (sY rfl rfl rfl rfl ?_)
  refine qK rfl rfl rfl rfl ?_
  refine s_bool_np 16 rfl (fun hrl=>?_) (fun hrl=>?_)
  ·
   refine qZ rfl rfl rfl rfl (qZ rfl rfl rfl rfl (qZ rfl rfl rfl rfl (rS rfl rfl rfl rfl ?_)))
   refine qZ rfl rfl rfl rfl (kW rfl rfl rfl rfl rfl (kW rfl rfl rfl rfl rfl (qS rfl rfl rfl rfl (qR (qW [4] (e':=[(4,_)]) rfl ?_)))))
   refine qQ (qJ (kD rfl rfl (()) (by congr 1;first | (rw [decide_eq_decide];unfold vcanF;rw [thF_eq hth,Int.toNat_natCast];exact ⟨fun h=>⟨hc,fun _=>h⟩,fun h=>h.2 hrl⟩) | (symm;rw [decide_eq_false_iff_not];exact fun h=>hc h.1) | (symm;rw [decide_eq_true_eq];exact ⟨hc,fun h=>absurd h hrl⟩)) (by trivial) ?_))
   exact Tf
  refine qK rfl rfl rfl rfl (qG (k:=1) rfl rfl rfl rfl υ'47 rfl ζ'3 rfl ?_)
  refine qP (j:=1) rfl rfl rfl rfl α'3 Tk Az (by rfl) ?_
  refine kB 19 rfl (v':=.int .i64 ((i:Nat):Int)) (by rfl) ?_
  have sp_3:=clock_spec pa pc b x hx i l hth
  refine qM rfl rfl rfl rfl rfl rfl κ'39 (sp_3) Ts ?_
  rintro ⟨⟩ -
  try simp only [Ca,Na]
  refine qV (qB rfl rfl rfl rfl rfl (cB _ _ _ _) ?_)
  refine kN rfl rfl rfl rfl rfl (kW rfl rfl rfl rfl rfl (qS rfl rfl rfl rfl (qR (qW [4] (e':=[(4,_)]) rfl ?_))))
  refine qQ (qJ (kD rfl rfl (()) (by congr 1;first | (rw [decide_eq_decide];unfold vcanF;rw [thF_eq hth,Int.toNat_natCast];exact ⟨fun h=>⟨hc,fun _=>h⟩,fun h=>h.2 hrl⟩) | (symm;rw [decide_eq_false_iff_not];exact fun h=>hc h.1) | (symm;rw [decide_eq_true_eq];exact ⟨hc,fun h=>absurd h hrl⟩)) (by trivial) ?_))
  exact Tf
 refine qZ rfl rfl rfl rfl (qZ rfl rfl rfl rfl (rS rfl rfl rfl rfl ?_))
 refine qZ rfl rfl rfl rfl (qZ rfl rfl rfl rfl (qZ rfl rfl rfl rfl (qZ rfl rfl rfl rfl (qZ rfl rfl rfl rfl (rS rfl rfl rfl rfl ?_)))))
 refine qZ rfl rfl rfl rfl (qZ rfl rfl rfl rfl (kN rfl rfl rfl rfl rfl (qS rfl rfl rfl rfl (qR (qW [4] (e':=[(4,_)]) rfl ?_)))))
 refine qQ (qJ (kD rfl rfl (()) (by congr 1;first | (rw [decide_eq_decide];unfold vcanF;rw [thF_eq hth,Int.toNat_natCast];exact ⟨fun h=>⟨hc,fun _=>h⟩,fun h=>h.2 hrl⟩) | (symm;rw [decide_eq_false_iff_not];exact fun h=>hc h.1) | (symm;rw [decide_eq_true_eq];exact ⟨hc,fun h=>absurd h hrl⟩)) (by trivial) ?_))
 exact Tf
end Go.Ab.Rv
set_option linter.unusedVariables false
set_option linter.unusedSimpArgs false
set_option maxRecDepth 100000
namespace Go.Ab.Rv
open Go Go.Proofs Go.Ab Go.Ab.Fe Go.Ab.Vc Go.Ab.Dj
theorem vnext_can (pa:Option Addr) (pc b:Nat) (x:VS) (hx:VInv x) (hn:x.ck.n≤4000000000000) (pl:List Int) (hpl:x.ck.pa=pl) (k:Int) (t o:Nat) (hv:vcanF x k ((t:Nat):Int) ((o:Nat):Int)):Spec Tryz.prog 40 [.pointer (some ⟨b,0,none⟩),.agg #[.int .i64 k,.int .i64 ((t:Nat):Int),.int .i64 ((o:Nat):Int)]] [rvR pa pc b x,own 1 encZ pa pc pl] (fun (_:Unit)=>.tuple #[]) (fun _=>True) (fun _=>[rvR pa pc b (vnF x k ((t:Nat):Int) ((o:Nat):Int)),own 1 encZ pa pc pl]):=by
 refine kQ (n:=162) Tryz.func40 rfl rfl rfl ?_
 intro Γ w0
 simp only [argE,Ca,Na,Zd,Nat.reduceAdd]
 refine qL (qC ((.l 0 [] (.done))) Kr ?_)
 refine sP rfl rfl rfl rfl (us:=[_,_,_]) rfl ?_
 intro b3
 refine qV (qR (qQ (qL ?_)))
 have hc:=hv.1
 obtain ⟨l,hth⟩:=th_some hx (can_th hc)
 obtain ⟨h0_,h1_⟩:=th_rng hx (can_th hc)
 have hlc:=hx.thc _ _ hth
 have hll:=hlc.len
 have hlg:=g_rng hlc.rng (by decide) t
 have htn:t < 65535:=by omega
 obtain ⟨o5,o7,o9,o10,o11⟩:=can_obj hx.ck hc
 rw [Int.toNat_natCast] at o5 o7 o9
 have hsh:=hx.ck.sh
 have hsT:=hsh.th
 have hsV:=hsh.vo
 have hsL:=hsh.lk
 have hOl:=hx.ck.ol
 have hrest:=nxF_pa x.ck k ((t:Nat):Int) ((o:Nat):Int)
 have hn0:=hx.ck.n0
 refine rv_open (pa:=pa) (pc:=pc) (b:=b) (x:=x) Tk fun cb Ta Tc La Lc Oa Oc Ra Rc VT VL VO VR YR hVT hVL hVO hVR hK=>?_
 have hTl:=hx.ck.tl
 obtain ⟨-,hts_,-⟩:=stF_nz (x:=x.ck) (t:=((t:Nat):Int)) ((hx.th _).1 (by rw [hth];rfl))
 rw [Int.toNat_natCast] at hts_
 have htt:(tabF x.ck.th.toNat x.th)[t]?=some (some l):=by rw [tab_get Om,hth]
 refine cZ (res:=optR) (V:=VT) (Y:=tabF x.ck.th.toNat x.th) (S:=[]) t Tk (by simp) htt fun ta hta=>?_
 refine optR_some (a:=ta) (t:=l) Tk fun tb htb=>?_
 subst htb
 refine kL rfl (.q 0 (.q 1 (.q 2 (.q 3 (.q 4 (.q 5 (.q 6 (.q 7 (.q 8 (.done)))))))))) Kr ?_
 refine qK rfl rfl rfl rfl (qX rfl rfl rfl rfl (qG (k:=1) rfl rfl rfl rfl υ'111 rfl ζ'108 rfl ?_))
 refine qP (j:=1) rfl rfl rfl rfl α'108 Tk Az (by rfl) ?_
 refine qG (k:=1) rfl rfl rfl rfl υ'47 rfl ζ'3 rfl ?_
 refine qP (j:=1) rfl rfl rfl rfl α'3 Tk Az (by rfl) ?_
 refine kF (sz:=0) (k:=t) (enc:=encA) (xs:=VT) rfl rfl rfl rfl rfl υ'108 ζ'102 hta (by first | rfl | omega) Om Tk ?_
 intro ib16 io16 ha16 hl16 hc16
 refine kS (v:=(.pointer (some ⟨tb,0,none⟩))) (j:=0) (k':=t) (enc:=encA) (off:=io16) rfl rfl rfl rfl α'102 ha16 encA_len hta Tk (by first | rfl | exact (Ad _).symm | omega) (by rfl) ?_
 refine qS rfl rfl rfl rfl (qR (qW [0,3,4] (e':=[(0,_),(3,_),(4,_)]) rfl ?_))
 refine qQ (qL (qL (qC (.q 0 (.q 1 (.done))) Kr ?_)))
 refine qG (k:=0) rfl rfl rfl rfl υ'47 rfl ζ'45 rfl ?_
 refine qP (j:=0) rfl rfl rfl rfl α'45 Tk Az (by rfl) ?_
 refine qR (qQ (kC (qL (qC (.q 0 (.q 1 (.done))) Kr ?_))))
 refine qB rfl rfl rfl rfl rfl (cP _ _ _ _) ?_
 refine qS rfl rfl rfl rfl (qR (qQ ?_))
 refine qD rfl (fun k5=>?_) (fun k5=>?_)
 ·
  have hto:(tabF x.ck.lk.toNat x.lk)[o]?=some (x.lk ((o:Nat):Int)):=tab_get Om
  refine cZ (res:=optR) (V:=VL) (Y:=tabF x.ck.lk.toNat x.lk) (S:=[]) o Tk (by simp) hto fun ka hka=>?_
  refine kL rfl (.q 0 (.q 1 (.q 2 (.q 3 (.q 4 (.q 5 (.q 6 (.q 7 (.q 8 ((.l 9 [] (.done)))))))))))) Kr ?_
  refine qK rfl rfl rfl rfl (qK rfl rfl rfl rfl (qX rfl rfl rfl rfl (qG (k:=2) rfl rfl rfl rfl υ'111 rfl ζ'108 rfl ?_)))
  refine qP (j:=2) rfl rfl rfl rfl α'108 Tk Az (by rfl) ?_
  refine qG (k:=2) rfl rfl rfl rfl υ'47 rfl ζ'3 rfl ?_
  refine qP (j:=2) rfl rfl rfl rfl α'3 Tk Az (by rfl) ?_
  refine kF (sz:=0) (k:=o) (enc:=encA) (xs:=VL) rfl rfl rfl rfl rfl υ'108 ζ'102 hka (by first | rfl | omega) Om Tk ?_
  intro ib29 io29 ha29 hl29 hc29
  refine kS (v:=(.pointer ka)) (j:=0) (k':=o) (enc:=encA) (off:=io29) rfl rfl rfl rfl α'102 ha29 encA_len hka Tk (by first | rfl | exact (Ad _).symm | omega) (by rfl) ?_
  have sp_1:=joined_spec tb l ka (x.lk ((o:Nat):Int))
  refine qM rfl rfl rfl rfl rfl rfl κ'80 (sp_1) Ts ?_
  rintro ⟨⟩ -
  try simp only [Ca,Na]
  refine qV (qR (cY (res:=optR) (V:=VL) (Y:=tabF x.ck.lk.toNat x.lk) (S:=[]) o Ts (by simp) hka hto ?_))
  refine qW [0,3,4] (e':=[(0,_),(3,_),(4,_)]) rfl ?_
  refine kX (qQ (qL (qL (qC (.q 0 (.q 1 ((.l 2 [] (.done))))) Kr ?_))))
  refine qG (k:=0) rfl rfl rfl rfl υ'47 rfl ζ'45 rfl ?_
  refine qP (j:=0) rfl rfl rfl rfl α'45 Tk Az (by rfl) ?_
  have sp_2:=Rv.more_spec k
  refine qM rfl rfl rfl rfl rfl rfl κ'76 (sp_2) Ts ?_
  rintro ⟨⟩ -
  try simp only [Ca,Na]
  refine qV (qR (qQ ?_))
  refine qD rfl (fun hg=>by exfalso;unfold relK at hg;omega) (fun hg=>?_)
  refine qF (qQ (kL rfl (.q 0 (.q 1 (.q 2 (.q 3 (.q 4 ((.l 5 [] (.done)))))))) Kr ?_))
  refine qK rfl rfl rfl rfl (qX rfl rfl rfl rfl (qG (k:=0) rfl rfl rfl rfl υ'111 rfl ζ'107 rfl ?_))
  refine qP (j:=0) rfl rfl rfl rfl α'107 Tk Az (by rfl) ?_
  refine kG rfl rfl rfl rfl α'47 ζ'47 Tk 0 (us:=[_,_,_]) Az rfl rfl ?_
  have sp_3:=Fe.rnext_spec pa pc cb x.ck hx.ck Om pl (hpl) k ((t:Nat):Int) ((o:Nat):Int)
  refine qM rfl rfl rfl rfl rfl rfl κ'85 (sp_3) Ts ?_
  rintro ⟨⟩ -
  try simp only [Ca,Na]
  refine qV (qR (qW [] (e':=[]) rfl ?_))
  refine sH ?_
  have hF:(vnF x k ((t:Nat):Int) ((o:Nat):Int))=⟨nxF x.ck k ((t:Nat):Int) ((o:Nat):Int),(upd x.th ((t:Nat):Int) (some (mgF (x.lk ((o:Nat):Int)) l))),x.lk,x.vo,x.rd⟩:=(by rw [vn5 hth k5])
  refine optR_someF (b:=tb) (t:=(mgF (x.lk ((o:Nat):Int)) l)) Td ?_
  refine cD (res:=optR) (V:=VT) (Y:=tabF x.ck.th.toNat x.th) (S:=[]) t (some ⟨tb,0,none⟩) (some (mgF (x.lk ((o:Nat):Int)) l)) Ts (by simp) (by first | omega | (simp;omega)) (by rw [tab_len];omega) ?_
  rw [set_sameL hta,tab_set]
  refine rv_fold (b:=b) (vnF x k ((t:Nat):Int) ((o:Nat):Int)) (pa:=pa) (pc:=pc) (cb:=cb) (Ta:=Ta) (Tc:=Tc) (La:=La) (Lc:=Lc) (Oa:=Oa) (Oc:=Oc) (Ra:=Ra) (Rc:=Rc) (VT:=VT) (VL:=VL) (VO:=VO) (VR:=VR) (YR:=YR) Ts (by first | rfl | simp) (by first | rfl | simp) (by first | rfl | simp) (by first | rfl | simp) (by rw [hF]) (by rw [hF,hrest.2.1]) (by rw [hF,hrest.2.2.2.2]) (by rw [hF,hrest.2.2.2.1]) (by rw [hF,hrest.2.1];simpa using hVT) (by rw [hF,hrest.2.2.2.2];simpa using hVL) (by rw [hF,hrest.2.2.2.1];simpa using hVO) (by simpa using hVR) (by rw [hF];exact relK_keep hK hx.ck hc Om) ?_
  refine ret0 rfl (()) (by first | rfl | (first | rfl | (congr 1;done) | (congr 1 <;> first | rfl | omega | (simp;done) | (simp;omega)))) (by trivial) ?_
  exact Tf
 refine qL (qC (.q 0 (.q 1 (.done))) Kr ?_)
 refine qB rfl rfl rfl rfl rfl (cP _ _ _ _) ?_
 refine qS rfl rfl rfl rfl (qR (qW [0,3,4,19,32] (e':=[(0,_),(3,_),(4,_),(19,_),(32,_)]) rfl ?_))
 refine qQ ?_
 refine qD rfl (fun k6=>?_) (fun k6=>?_)
 ·
  have hlt:l.getD t 0 < maxC:=by
    have h9:=hv.2 (by unfold relK;omega)
    rw [thF_eq hth,Int.toNat_natCast] at h9;exact h9
  have hto:(tabF x.ck.lk.toNat x.lk)[o]?=some (x.lk ((o:Nat):Int)):=tab_get Om
  refine cZ (res:=optR) (V:=VL) (Y:=tabF x.ck.lk.toNat x.lk) (S:=[]) o Tk (by simp) hto fun ka hka=>?_
  refine kL rfl (.q 0 (.q 1 (.q 2 (.q 3 (.q 4 (.q 5 (.q 6 ((.l 7 [3,5] (.q 8 ((.l 9 [] (.done))))))))))))) Kr ?_
  refine qK rfl rfl rfl rfl (qX rfl rfl rfl rfl (qG (k:=2) rfl rfl rfl rfl υ'111 rfl ζ'108 rfl ?_))
  refine qP (j:=2) rfl rfl rfl rfl α'108 Tk Az (by rfl) ?_
  refine qG (k:=2) rfl rfl rfl rfl υ'47 rfl ζ'3 rfl ?_
  refine qP (j:=2) rfl rfl rfl rfl α'3 Tk Az (by rfl) ?_
  refine qK rfl rfl rfl rfl ?_
  have sp_4:=Rv.copy_spec tb l
  refine qM rfl rfl rfl rfl rfl rfl κ'44 (sp_4) Ts ?_
  rintro qb -
  try simp only [Ca,Na]
  refine qH (q:=2) rfl rfl rfl α'108 Tk Az (by rfl) ?_
  refine qH (q:=2) rfl rfl rfl α'3 Tk Az (by rfl) ?_
  refine qV (kF (sz:=0) (k:=o) (enc:=encA) (xs:=VL) rfl rfl rfl rfl rfl υ'108 ζ'102 hka (by first | rfl | omega) Om Tk ?_)
  intro ib42 io42 ha42 hl42 hc42
  refine sK (j:=0) (k:=o) (q:=(some ⟨qb,0,none⟩)) (enc:=encA) (off:=io42) rfl rfl rfl rfl ζ'102 (us:=[_]) rfl rfl rfl ha42 encA_len hka Tk (by first | rfl | exact (Ad _).symm | omega) (by first | decide | exact Nat.le_of_ble_eq_true rfl) (by rfl) ?_
  refine qV (qR (optR_someF (b:=qb) (t:=l) Td ?_))
  refine cD (res:=optR) (V:=VL) (Y:=tabF x.ck.lk.toNat x.lk) (S:=[]) o (some ⟨qb,0,none⟩) (some l) Ts (by simp) Om (by rw [tab_len];omega) ?_
  rw [tab_set]
  refine qW [0,3,4] (e':=[(0,_),(3,_),(4,_)]) rfl ?_
  refine kX (qQ (qL (qL (qC (.q 0 (.q 1 ((.l 2 [] (.done))))) Kr ?_))))
  refine qG (k:=0) rfl rfl rfl rfl υ'47 rfl ζ'45 rfl ?_
  refine qP (j:=0) rfl rfl rfl rfl α'45 Tk Az (by rfl) ?_
  have sp_5:=Rv.more_spec k
  refine qM rfl rfl rfl rfl rfl rfl κ'76 (sp_5) Ts ?_
  rintro ⟨⟩ -
  try simp only [Ca,Na]
  refine qV (qR (qQ ?_))
  refine qD rfl (fun hg=>?_) (fun hg=>by exfalso;exact hg (by unfold relK;omega))
  refine qC (.q 0 (.q 1 (.q 2 ((.l 3 [] (.done)))))) Kr ?_
  refine qK rfl rfl rfl rfl (qG (k:=1) rfl rfl rfl rfl υ'47 rfl ζ'3 rfl ?_)
  refine qP (j:=1) rfl rfl rfl rfl α'3 Tk Az (by rfl) ?_
  have sp_6:=Rv.inc_spec tb l t Om (hlt)
  refine qM rfl rfl rfl rfl rfl rfl κ'74 (sp_6) Ts ?_
  rintro ⟨⟩ -
  try simp only [Ca,Na]
  refine qV (qR (qW [0,3] (e':=[(0,_),(3,_)]) rfl ?_))
  refine qQ (kL rfl (.q 0 (.q 1 (.q 2 (.q 3 (.q 4 ((.l 5 [] (.done)))))))) Kr ?_)
  refine qK rfl rfl rfl rfl (qX rfl rfl rfl rfl (qG (k:=0) rfl rfl rfl rfl υ'111 rfl ζ'107 rfl ?_))
  refine qP (j:=0) rfl rfl rfl rfl α'107 Tk Az (by rfl) ?_
  refine kG rfl rfl rfl rfl α'47 ζ'47 Tk 0 (us:=[_,_,_]) Az rfl rfl ?_
  have sp_7:=Fe.rnext_spec pa pc cb x.ck hx.ck Om pl (hpl) k ((t:Nat):Int) ((o:Nat):Int)
  refine qM rfl rfl rfl rfl rfl rfl κ'85 (sp_7) Ts ?_
  rintro ⟨⟩ -
  try simp only [Ca,Na]
  refine qV (qR (qW [] (e':=[]) rfl ?_))
  refine sH ?_
  have hF:(vnF x k ((t:Nat):Int) ((o:Nat):Int))=⟨nxF x.ck k ((t:Nat):Int) ((o:Nat):Int),(upd x.th ((t:Nat):Int) (some (icL l t))),(upd x.lk ((o:Nat):Int) (some l)),x.vo,x.rd⟩:=(by rw [vn6 hth k6];(try simp only [Int.toNat_natCast]))
  refine optR_someF (b:=tb) (t:=(icL l t)) Td ?_
  refine cD (res:=optR) (V:=VT) (Y:=tabF x.ck.th.toNat x.th) (S:=[]) t (some ⟨tb,0,none⟩) (some (icL l t)) Ts (by simp) (by first | omega | (simp;omega)) (by rw [tab_len];omega) ?_
  rw [set_sameL hta,tab_set]
  refine rv_fold (b:=b) (vnF x k ((t:Nat):Int) ((o:Nat):Int)) (pa:=pa) (pc:=pc) (cb:=cb) (Ta:=Ta) (Tc:=Tc) (La:=La) (Lc:=Lc) (Oa:=Oa) (Oc:=Oc) (Ra:=Ra) (Rc:=Rc) (VT:=VT) (VL:=(VL.set o (some ⟨qb,0,none⟩))) (VO:=VO) (VR:=VR) (YR:=YR) Ts (by first | rfl | simp) (by first | rfl | simp) (by first | rfl | simp) (by first | rfl | simp) (by rw [hF]) (by rw [hF,hrest.2.1]) (by rw [hF,hrest.2.2.2.2]) (by rw [hF,hrest.2.2.2.1]) (by rw [hF,hrest.2.1];simpa using hVT) (by rw [hF,hrest.2.2.2.2];simpa using hVL) (by rw [hF,hrest.2.2.2.1];simpa using hVO) (by simpa using hVR) (by rw [hF];exact relK_keep hK hx.ck hc Om) ?_
  refine ret0 rfl (()) (by first | rfl | (first | rfl | (congr 1;done) | (congr 1 <;> first | rfl | omega | (simp;done) | (simp;omega)))) (by trivial) ?_
  exact Tf
 refine qL (qC (.q 0 (.q 1 (.done))) Kr ?_)
 refine qB rfl rfl rfl rfl rfl (cP _ _ _ _) ?_
 refine qS rfl rfl rfl rfl (qR (qQ ?_))
 refine qD rfl (fun k3=>?_) (fun k3=>?_)
 ·
  have hor:0≤(o:Int)∧okK x.ck k ((t:Nat):Int) ((o:Nat):Int):=by
    rcases hc with ⟨-,q_,-⟩ | ⟨-,q_⟩
    · omega
    · exact q_
  unfold okK at hor
  have hto:(tabF x.ck.vo.toNat x.vo)[o]?=some (x.vo ((o:Nat):Int)):=tab_get Om
  refine cZ (res:=optR) (V:=VO) (Y:=tabF x.ck.vo.toNat x.vo) (S:=[]) o Tk (by simp) hto fun ka hka=>?_
  refine kL rfl (.q 0 (.q 1 (.q 2 (.q 3 (.q 4 (.q 5 (.q 6 (.q 7 (.q 8 ((.l 9 [] (.done)))))))))))) Kr ?_
  refine qK rfl rfl rfl rfl (qK rfl rfl rfl rfl (qX rfl rfl rfl rfl (qG (k:=3) rfl rfl rfl rfl υ'111 rfl ζ'108 rfl ?_)))
  refine qP (j:=3) rfl rfl rfl rfl α'108 Tk Az (by rfl) ?_
  refine qG (k:=2) rfl rfl rfl rfl υ'47 rfl ζ'3 rfl ?_
  refine qP (j:=2) rfl rfl rfl rfl α'3 Tk Az (by rfl) ?_
  refine kF (sz:=0) (k:=o) (enc:=encA) (xs:=VO) rfl rfl rfl rfl rfl υ'108 ζ'102 hka (by first | rfl | omega) Om Tk ?_
  intro ib52 io52 ha52 hl52 hc52
  refine kS (v:=(.pointer ka)) (j:=0) (k':=o) (enc:=encA) (off:=io52) rfl rfl rfl rfl α'102 ha52 encA_len hka Tk (by first | rfl | exact (Ad _).symm | omega) (by rfl) ?_
  have sp_8:=joined_spec tb l ka (x.vo ((o:Nat):Int))
  refine qM rfl rfl rfl rfl rfl rfl κ'80 (sp_8) Ts ?_
  rintro ⟨⟩ -
  try simp only [Ca,Na]
  refine qV (qR (cY (res:=optR) (V:=VO) (Y:=tabF x.ck.vo.toNat x.vo) (S:=[]) o Ts (by simp) hka hto ?_))
  refine qW [0,3,4] (e':=[(0,_),(3,_),(4,_)]) rfl ?_
  refine kX (qQ (qL (qL (qC (.q 0 (.q 1 ((.l 2 [] (.done))))) Kr ?_))))
  refine qG (k:=0) rfl rfl rfl rfl υ'47 rfl ζ'45 rfl ?_
  refine qP (j:=0) rfl rfl rfl rfl α'45 Tk Az (by rfl) ?_
  have sp_9:=Rv.more_spec k
  refine qM rfl rfl rfl rfl rfl rfl κ'76 (sp_9) Ts ?_
  rintro ⟨⟩ -
  try simp only [Ca,Na]
  refine qV (qR (qQ ?_))
  refine qD rfl (fun hg=>by exfalso;unfold relK at hg;omega) (fun hg=>?_)
  refine qF (qQ (kL rfl (.q 0 (.q 1 (.q 2 (.q 3 (.q 4 ((.l 5 [] (.done)))))))) Kr ?_))
  refine qK rfl rfl rfl rfl (qX rfl rfl rfl rfl (qG (k:=0) rfl rfl rfl rfl υ'111 rfl ζ'107 rfl ?_))
  refine qP (j:=0) rfl rfl rfl rfl α'107 Tk Az (by rfl) ?_
  refine kG rfl rfl rfl rfl α'47 ζ'47 Tk 0 (us:=[_,_,_]) Az rfl rfl ?_
  have sp_10:=Fe.rnext_spec pa pc cb x.ck hx.ck Om pl (hpl) k ((t:Nat):Int) ((o:Nat):Int)
  refine qM rfl rfl rfl rfl rfl rfl κ'85 (sp_10) Ts ?_
  rintro ⟨⟩ -
  try simp only [Ca,Na]
  refine qV (qR (qW [] (e':=[]) rfl ?_))
  refine sH ?_
  have hF:(vnF x k ((t:Nat):Int) ((o:Nat):Int))=⟨nxF x.ck k ((t:Nat):Int) ((o:Nat):Int),(upd x.th ((t:Nat):Int) (some (mgF (x.vo ((o:Nat):Int)) l))),x.lk,x.vo,x.rd⟩:=(by rw [vn3 hth k3])
  refine optR_someF (b:=tb) (t:=(mgF (x.vo ((o:Nat):Int)) l)) Td ?_
  refine cD (res:=optR) (V:=VT) (Y:=tabF x.ck.th.toNat x.th) (S:=[]) t (some ⟨tb,0,none⟩) (some (mgF (x.vo ((o:Nat):Int)) l)) Ts (by simp) (by first | omega | (simp;omega)) (by rw [tab_len];omega) ?_
  rw [set_sameL hta,tab_set]
  refine rv_fold (b:=b) (vnF x k ((t:Nat):Int) ((o:Nat):Int)) (pa:=pa) (pc:=pc) (cb:=cb) (Ta:=Ta) (Tc:=Tc) (La:=La) (Lc:=Lc) (Oa:=Oa) (Oc:=Oc) (Ra:=Ra) (Rc:=Rc) (VT:=VT) (VL:=VL) (VO:=VO) (VR:=VR) (YR:=YR) Ts (by first | rfl | simp) (by first | rfl | simp) (by first | rfl | simp) (by first | rfl | simp) (by rw [hF]) (by rw [hF,hrest.2.1]) (by rw [hF,hrest.2.2.2.2]) (by rw [hF,hrest.2.2.2.1]) (by rw [hF,hrest.2.1];simpa using hVT) (by rw [hF,hrest.2.2.2.2];simpa using hVL) (by rw [hF,hrest.2.2.2.1];simpa using hVO) (by simpa using hVR) (by rw [hF];exact relK_keep hK hx.ck hc Om) ?_
  refine ret0 rfl (()) (by first | rfl | (first | rfl | (congr 1;done) | (congr 1 <;> first | rfl | omega | (simp;done) | (simp;omega)))) (by trivial) ?_
  exact Tf
 refine qL (qC (.q 0 (.q 1 (.done))) Kr ?_)
 refine qB rfl rfl rfl rfl rfl (cP _ _ _ _) ?_
 refine qS rfl rfl rfl rfl (qR (qW [0,3,4,19,55] (e':=[(0,_),(3,_),(4,_),(19,_),(55,_)]) rfl ?_))
 refine qQ ?_
 refine qD rfl (fun k4=>?_) (fun k4=>?_)
 ·
  have hor:0≤(o:Int)∧okK x.ck k ((t:Nat):Int) ((o:Nat):Int):=by
    rcases hc with ⟨-,q_,-⟩ | ⟨-,q_⟩
    · omega
    · exact q_
  unfold okK at hor
  have hlt:l.getD t 0 < maxC:=by
    have h9:=hv.2 (by unfold relK;omega)
    rw [thF_eq hth,Int.toNat_natCast] at h9;exact h9
  have hto:(tabF x.ck.vo.toNat x.vo)[o]?=some (x.vo ((o:Nat):Int)):=tab_get Om
  refine cZ (res:=optR) (V:=VO) (Y:=tabF x.ck.vo.toNat x.vo) (S:=[]) o Tk (by simp) hto fun ka hka=>?_
  refine kL rfl (.q 0 (.q 1 (.q 2 (.q 3 (.q 4 (.q 5 (.q 6 (.q 8 (.q 9 (.q 10 (.q 11 (.q 12 (.q 13 (.q 14 (.q 15 ((.l 7 [3,5,11,13,15] ((.l 16 [3,5] (.q 17 ((.l 18 [] (.done))))))))))))))))))))))) Kr ?_
  refine qK rfl rfl rfl rfl (qX rfl rfl rfl rfl (qG (k:=3) rfl rfl rfl rfl υ'111 rfl ζ'108 rfl ?_))
  refine qP (j:=3) rfl rfl rfl rfl α'108 Tk Az (by rfl) ?_
  refine qG (k:=2) rfl rfl rfl rfl υ'47 rfl ζ'3 rfl ?_
  refine qP (j:=2) rfl rfl rfl rfl α'3 Tk Az (by rfl) ?_
  refine qK rfl rfl rfl rfl (qK rfl rfl rfl rfl (qX rfl rfl rfl rfl (qG (k:=3) rfl rfl rfl rfl υ'111 rfl ζ'108 rfl ?_)))
  refine qP (j:=3) rfl rfl rfl rfl α'108 Tk Az (by rfl) ?_
  refine qG (k:=2) rfl rfl rfl rfl υ'47 rfl ζ'3 rfl ?_
  refine qP (j:=2) rfl rfl rfl rfl α'3 Tk Az (by rfl) ?_
  refine kF (sz:=0) (k:=o) (enc:=encA) (xs:=VO) rfl rfl rfl rfl rfl υ'108 ζ'102 hka (by first | rfl | omega) Om Tk ?_
  intro ib71 io71 ha71 hl71 hc71
  refine kS (v:=(.pointer ka)) (j:=0) (k':=o) (enc:=encA) (off:=io71) rfl rfl rfl rfl α'102 ha71 encA_len hka Tk (by first | rfl | exact (Ad _).symm | omega) (by rfl) ?_
  have sp_11:=Rv.copy_spec tb l
  refine qM rfl rfl rfl rfl rfl rfl κ'44 (sp_11) Ts ?_
  rintro qb -
  try simp only [Ca,Na]
  refine qH (q:=3) rfl rfl rfl α'108 Tk Az (by rfl) ?_
  refine qH (q:=2) rfl rfl rfl α'3 Tk Az (by rfl) ?_
  refine qH (q:=3) rfl rfl rfl α'108 Tk Az (by rfl) ?_
  refine qH (q:=2) rfl rfl rfl α'3 Tk Az (by rfl) ?_
  refine sJ (v:=(.pointer ka)) (j:=0) (k':=o) (enc:=encA) (off:=io71) rfl rfl rfl α'102 ha71 encA_len hka Tk (by first | rfl | exact (Ad _).symm | omega) (by rfl) ?_
  refine qV ?_
  have sp_12:=joined_spec qb l ka (x.vo ((o:Nat):Int))
  refine qM rfl rfl rfl rfl rfl rfl κ'80 (sp_12) Ts ?_
  rintro ⟨⟩ -
  try simp only [Ca,Na]
  refine qH (q:=3) rfl rfl rfl α'108 Tk Az (by rfl) ?_
  refine qH (q:=2) rfl rfl rfl α'3 Tk Az (by rfl) ?_
  refine qV (kF (sz:=0) (k:=o) (enc:=encA) (xs:=VO) rfl rfl rfl rfl rfl υ'108 ζ'102 hka (by first | rfl | omega) Om Tk ?_)
  intro ib74 io74 ha74 hl74 hc74
  refine sK (j:=0) (k:=o) (q:=(some ⟨qb,0,none⟩)) (enc:=encA) (off:=io74) rfl rfl rfl rfl ζ'102 (us:=[_]) rfl rfl rfl ha74 encA_len hka Tk (by first | rfl | exact (Ad _).symm | omega) (by first | decide | exact Nat.le_of_ble_eq_true rfl) (by rfl) ?_
  refine qV (qR (optR_someF (b:=qb) (t:=(mgF (x.vo ((o:Nat):Int)) l)) Td ?_))
  refine cD (res:=optR) (V:=VO) (Y:=tabF x.ck.vo.toNat x.vo) (S:=[]) o (some ⟨qb,0,none⟩) (some (mgF (x.vo ((o:Nat):Int)) l)) Ts (by simp) Om (by rw [tab_len];omega) ?_
  rw [tab_set]
  refine qW [0,3,4] (e':=[(0,_),(3,_),(4,_)]) rfl ?_
  refine kX (qQ (qL (qL (qC (.q 0 (.q 1 ((.l 2 [] (.done))))) Kr ?_))))
  refine qG (k:=0) rfl rfl rfl rfl υ'47 rfl ζ'45 rfl ?_
  refine qP (j:=0) rfl rfl rfl rfl α'45 Tk Az (by rfl) ?_
  have sp_13:=Rv.more_spec k
  refine qM rfl rfl rfl rfl rfl rfl κ'76 (sp_13) Ts ?_
  rintro ⟨⟩ -
  try simp only [Ca,Na]
  refine qV (qR (qQ ?_))
  refine qD rfl (fun hg=>?_) (fun hg=>by exfalso;exact hg (by unfold relK;omega))
  refine qC (.q 0 (.q 1 (.q 2 ((.l 3 [] (.done)))))) Kr ?_
  refine qK rfl rfl rfl rfl (qG (k:=1) rfl rfl rfl rfl υ'47 rfl ζ'3 rfl ?_)
  refine qP (j:=1) rfl rfl rfl rfl α'3 Tk Az (by rfl) ?_
  have sp_14:=Rv.inc_spec tb l t Om (hlt)
  refine qM rfl rfl rfl rfl rfl rfl κ'74 (sp_14) Ts ?_
  rintro ⟨⟩ -
  try simp only [Ca,Na]
  refine qV (qR (qW [0,3] (e':=[(0,_),(3,_)]) rfl ?_))
  refine qQ (kL rfl (.q 0 (.q 1 (.q 2 (.q 3 (.q 4 ((.l 5 [] (.done)))))))) Kr ?_)
  refine qK rfl rfl rfl rfl (qX rfl rfl rfl rfl (qG (k:=0) rfl rfl rfl rfl υ'111 rfl ζ'107 rfl ?_))
  refine qP (j:=0) rfl rfl rfl rfl α'107 Tk Az (by rfl) ?_
  refine kG rfl rfl rfl rfl α'47 ζ'47 Tk 0 (us:=[_,_,_]) Az rfl rfl ?_
  have sp_15:=Fe.rnext_spec pa pc cb x.ck hx.ck Om pl (hpl) k ((t:Nat):Int) ((o:Nat):Int)
  refine qM rfl rfl rfl rfl rfl rfl κ'85 (sp_15) Ts ?_
  rintro ⟨⟩ -
  try simp only [Ca,Na]
  refine qV (qR (qW [] (e':=[]) rfl ?_))
  refine sH ?_
  have hF:(vnF x k ((t:Nat):Int) ((o:Nat):Int))=⟨nxF x.ck k ((t:Nat):Int) ((o:Nat):Int),(upd x.th ((t:Nat):Int) (some (icL l t))),x.lk,(upd x.vo ((o:Nat):Int) (some (mgF (x.vo ((o:Nat):Int)) l))),x.rd⟩:=(by rw [vn4 hth k4];(try simp only [Int.toNat_natCast]))
  refine optR_someF (b:=tb) (t:=(icL l t)) Td ?_
  refine cD (res:=optR) (V:=VT) (Y:=tabF x.ck.th.toNat x.th) (S:=[]) t (some ⟨tb,0,none⟩) (some (icL l t)) Ts (by simp) (by first | omega | (simp;omega)) (by rw [tab_len];omega) ?_
  rw [set_sameL hta,tab_set]
  refine rv_fold (b:=b) (vnF x k ((t:Nat):Int) ((o:Nat):Int)) (pa:=pa) (pc:=pc) (cb:=cb) (Ta:=Ta) (Tc:=Tc) (La:=La) (Lc:=Lc) (Oa:=Oa) (Oc:=Oc) (Ra:=Ra) (Rc:=Rc) (VT:=VT) (VL:=VL) (VO:=(VO.set o (some ⟨qb,0,none⟩))) (VR:=VR) (YR:=YR) Ts (by first | rfl | simp) (by first | rfl | simp) (by first | rfl | simp) (by first | rfl | simp) (by rw [hF]) (by rw [hF,hrest.2.1]) (by rw [hF,hrest.2.2.2.2]) (by rw [hF,hrest.2.2.2.1]) (by rw [hF,hrest.2.1];simpa using hVT) (by rw [hF,hrest.2.2.2.2];simpa using hVL) (by rw [hF,hrest.2.2.2.1];simpa using hVO) (by simpa using hVR) (by rw [hF];exact relK_keep hK hx.ck hc Om) ?_
  refine ret0 rfl (()) (by first | rfl | (first | rfl | (congr 1;done) | (congr 1 <;> first | rfl | omega | (simp;done) | (simp;omega)))) (by trivial) ?_
  exact Tf
 refine qL (qC (.q 0 (.q 1 (.done))) Kr ?_)
 refine qB rfl rfl rfl rfl rfl (cP _ _ _ _) ?_
 refine qS rfl rfl rfl rfl (qR (qQ ?_))
 refine qD rfl (fun k7=>?_) (fun k7=>?_)
 ·
  refine qL ?_
  have hlt:l.getD t 0 < maxC:=by
    have h9:=hv.2 (by unfold relK;omega)
    rw [thF_eq hth,Int.toNat_natCast] at h9;exact h9
  obtain ⟨p0,p1,p2⟩:=o7 k7
  have hot:o≠t:=by intro e;rw [e] at p2;exact can_th hc p2
  refine qC (.q 0 ((.l 1 [] (.q 2 (.done))))) Kr ?_
  refine qK rfl rfl rfl rfl ?_
  have sp_16:=Rv.copy_spec tb l
  refine qM rfl rfl rfl rfl rfl rfl κ'44 (sp_16) Ts ?_
  rintro qb -
  try simp only [Ca,Na]
  refine qV (qS rfl rfl rfl rfl (qR (qW [0,3,4,5] (e':=[(0,_),(3,_),(4,_),(5,_)]) rfl ?_)))
  refine qQ (qL (qC (.q 0 (.q 1 (.q 2 ((.l 3 [] (.done)))))) Kr ?_))
  refine qK rfl rfl rfl rfl (qG (k:=2) rfl rfl rfl rfl υ'47 rfl ζ'3 rfl ?_)
  refine qP (j:=2) rfl rfl rfl rfl α'3 Tk Az (by rfl) ?_
  have sp_17:=Rv.set_spec qb l o 1 Om (by decide) (by decide)
  refine qM rfl rfl rfl rfl rfl rfl κ'38 (sp_17) Ts ?_
  rintro ⟨⟩ -
  try simp only [Ca,Na]
  refine qV (qR (qW [0,3,4,5] (e':=[(0,_),(3,_),(4,_),(5,_)]) rfl ?_))
  refine qQ ?_
  have hto:(tabF x.ck.th.toNat x.th)[o]?=some (x.th ((o:Nat):Int)):=tab_get Om
  refine cZ (res:=optR) (V:=VT) (Y:=tabF x.ck.th.toNat x.th) (S:=[t]) o Tk (by simp;omega) hto fun ka hka=>?_
  refine kL rfl (.q 0 (.q 1 (.q 2 (.q 3 (.q 4 (.q 5 (.q 6 (.q 7 ((.l 8 [] (.done))))))))))) Kr ?_
  refine qK rfl rfl rfl rfl (qX rfl rfl rfl rfl (qG (k:=1) rfl rfl rfl rfl υ'111 rfl ζ'108 rfl ?_))
  refine qP (j:=1) rfl rfl rfl rfl α'108 Tk Az (by rfl) ?_
  refine qG (k:=2) rfl rfl rfl rfl υ'47 rfl ζ'3 rfl ?_
  refine qP (j:=2) rfl rfl rfl rfl α'3 Tk Az (by rfl) ?_
  refine qK rfl rfl rfl rfl (kF (sz:=0) (k:=o) (enc:=encA) (xs:=VT) rfl rfl rfl rfl rfl υ'108 ζ'102 hka (by first | rfl | omega) Om Tk ?_)
  intro ib90 io90 ha90 hl90 hc90
  refine sK (j:=0) (k:=o) (q:=(some ⟨qb,0,none⟩)) (enc:=encA) (off:=io90) rfl rfl rfl rfl ζ'102 (us:=[_]) rfl rfl rfl ha90 encA_len hka Tk (by first | rfl | exact (Ad _).symm | omega) (by first | decide | exact Nat.le_of_ble_eq_true rfl) (by rfl) ?_
  refine qV (qR (optR_someF (b:=qb) (t:=(stL l o 1)) Td ?_))
  refine cD (res:=optR) (V:=VT) (Y:=tabF x.ck.th.toNat x.th) (S:=[t]) o (some ⟨qb,0,none⟩) (some (stL l o 1)) Ts (by simp;omega) Om (by rw [tab_len];omega) ?_
  rw [tab_set]
  have hta2:(VT.set o (some ⟨qb,0,none⟩))[t]?=some (some ⟨tb,0,none⟩):=by rw [List.getElem?_set_ne hot];exact hta
  refine qW [0,3,4] (e':=[(0,_),(3,_),(4,_)]) rfl ?_
  refine kX (qQ (qL (qL (qC (.q 0 (.q 1 ((.l 2 [] (.done))))) Kr ?_))))
  refine qG (k:=0) rfl rfl rfl rfl υ'47 rfl ζ'45 rfl ?_
  refine qP (j:=0) rfl rfl rfl rfl α'45 Tk Az (by rfl) ?_
  have sp_18:=Rv.more_spec k
  refine qM rfl rfl rfl rfl rfl rfl κ'76 (sp_18) Ts ?_
  rintro ⟨⟩ -
  try simp only [Ca,Na]
  refine qV (qR (qQ ?_))
  refine qD rfl (fun hg=>?_) (fun hg=>by exfalso;exact hg (by unfold relK;omega))
  refine qC (.q 0 (.q 1 (.q 2 ((.l 3 [] (.done)))))) Kr ?_
  refine qK rfl rfl rfl rfl (qG (k:=1) rfl rfl rfl rfl υ'47 rfl ζ'3 rfl ?_)
  refine qP (j:=1) rfl rfl rfl rfl α'3 Tk Az (by rfl) ?_
  have sp_19:=Rv.inc_spec tb l t Om (hlt)
  refine qM rfl rfl rfl rfl rfl rfl κ'74 (sp_19) Ts ?_
  rintro ⟨⟩ -
  try simp only [Ca,Na]
  refine qV (qR (qW [0,3] (e':=[(0,_),(3,_)]) rfl ?_))
  refine qQ (kL rfl (.q 0 (.q 1 (.q 2 (.q 3 (.q 4 ((.l 5 [] (.done)))))))) Kr ?_)
  refine qK rfl rfl rfl rfl (qX rfl rfl rfl rfl (qG (k:=0) rfl rfl rfl rfl υ'111 rfl ζ'107 rfl ?_))
  refine qP (j:=0) rfl rfl rfl rfl α'107 Tk Az (by rfl) ?_
  refine kG rfl rfl rfl rfl α'47 ζ'47 Tk 0 (us:=[_,_,_]) Az rfl rfl ?_
  have sp_20:=Fe.rnext_spec pa pc cb x.ck hx.ck Om pl (hpl) k ((t:Nat):Int) ((o:Nat):Int)
  refine qM rfl rfl rfl rfl rfl rfl κ'85 (sp_20) Ts ?_
  rintro ⟨⟩ -
  try simp only [Ca,Na]
  refine qV (qR (qW [] (e':=[]) rfl ?_))
  refine sH ?_
  have hF:(vnF x k ((t:Nat):Int) ((o:Nat):Int))=⟨nxF x.ck k ((t:Nat):Int) ((o:Nat):Int),(upd (upd x.th ((o:Nat):Int) (some (stL l o 1))) ((t:Nat):Int) (some (icL l t))),x.lk,x.vo,x.rd⟩:=(by rw [vn7 hth k7];(try simp only [Int.toNat_natCast]))
  refine optR_someF (b:=tb) (t:=(icL l t)) Td ?_
  refine cD (res:=optR) (V:=(VT.set o (some ⟨qb,0,none⟩))) (Y:=tabF x.ck.th.toNat (upd x.th ((o:Nat):Int) (some (stL l o 1)))) (S:=[]) t (some ⟨tb,0,none⟩) (some (icL l t)) Ts (by simp) (by first | omega | (simp;omega)) (by rw [tab_len];omega) ?_
  rw [set_sameL hta2,tab_set]
  refine rv_fold (b:=b) (vnF x k ((t:Nat):Int) ((o:Nat):Int)) (pa:=pa) (pc:=pc) (cb:=cb) (Ta:=Ta) (Tc:=Tc) (La:=La) (Lc:=Lc) (Oa:=Oa) (Oc:=Oc) (Ra:=Ra) (Rc:=Rc) (VT:=(VT.set o (some ⟨qb,0,none⟩))) (VL:=VL) (VO:=VO) (VR:=VR) (YR:=YR) Ts (by first | rfl | simp) (by first | rfl | simp) (by first | rfl | simp) (by first | rfl | simp) (by rw [hF]) (by rw [hF,hrest.2.1]) (by rw [hF,hrest.2.2.2.2]) (by rw [hF,hrest.2.2.2.1]) (by rw [hF,hrest.2.1];simpa using hVT) (by rw [hF,hrest.2.2.2.2];simpa using hVL) (by rw [hF,hrest.2.2.2.1];simpa using hVO) (by simpa using hVR) (by rw [hF];exact relK_keep hK hx.ck hc Om) ?_
  refine ret0 rfl (()) (by first | rfl | (first | rfl | (congr 1;done) | (congr 1 <;> first | rfl | omega | (simp;done) | (simp;omega)))) (by trivial) ?_
  exact Tf
 refine qL (qC (.q 0 (.q 1 (.done))) Kr ?_)
 refine qB rfl rfl rfl rfl rfl (cP _ _ _ _) ?_
 refine qS rfl rfl rfl rfl (qR (qW [0,3,4,19,91] (e':=[(0,_),(3,_),(4,_),(19,_),(91,_)]) rfl ?_))
 refine qQ ?_
 refine qD rfl (fun k8=>?_) (fun k8=>?_)
 ·
  have hor:0≤(o:Int)∧okK x.ck k ((t:Nat):Int) ((o:Nat):Int):=by
    rcases hc with ⟨-,q_,-⟩ | ⟨-,q_⟩
    · omega
    · exact q_
  unfold okK at hor
  have hot:o≠t:=by intro e;rw [e] at hc;exact join_ne hc k8
  have hto:(tabF x.ck.th.toNat x.th)[o]?=some (x.th ((o:Nat):Int)):=tab_get Om
  refine cZ (res:=optR) (V:=VT) (Y:=tabF x.ck.th.toNat x.th) (S:=[t]) o Tk (by simp;omega) hto fun ka hka=>?_
  refine kL rfl (.q 0 (.q 1 (.q 2 (.q 3 (.q 4 (.q 5 (.q 6 (.q 7 (.q 8 ((.l 9 [] (.done)))))))))))) Kr ?_
  refine qK rfl rfl rfl rfl (qK rfl rfl rfl rfl (qX rfl rfl rfl rfl (qG (k:=1) rfl rfl rfl rfl υ'111 rfl ζ'108 rfl ?_)))
  refine qP (j:=1) rfl rfl rfl rfl α'108 Tk Az (by rfl) ?_
  refine qG (k:=2) rfl rfl rfl rfl υ'47 rfl ζ'3 rfl ?_
  refine qP (j:=2) rfl rfl rfl rfl α'3 Tk Az (by rfl) ?_
  refine kF (sz:=0) (k:=o) (enc:=encA) (xs:=VT) rfl rfl rfl rfl rfl υ'108 ζ'102 hka (by first | rfl | omega) Om Tk ?_
  intro ib100 io100 ha100 hl100 hc100
  refine kS (v:=(.pointer ka)) (j:=0) (k':=o) (enc:=encA) (off:=io100) rfl rfl rfl rfl α'102 ha100 encA_len hka Tk (by first | rfl | exact (Ad _).symm | omega) (by rfl) ?_
  have sp_21:=joined_spec tb l ka (x.th ((o:Nat):Int))
  refine qM rfl rfl rfl rfl rfl rfl κ'80 (sp_21) Ts ?_
  rintro ⟨⟩ -
  try simp only [Ca,Na]
  refine qV (qR (cY (res:=optR) (V:=VT) (Y:=tabF x.ck.th.toNat x.th) (S:=[t]) o Ts (by simp;omega) hka hto ?_))
  refine qW [0,3,4] (e':=[(0,_),(3,_),(4,_)]) rfl ?_
  refine kX (qQ (qL (qL (qC (.q 0 (.q 1 ((.l 2 [] (.done))))) Kr ?_))))
  refine qG (k:=0) rfl rfl rfl rfl υ'47 rfl ζ'45 rfl ?_
  refine qP (j:=0) rfl rfl rfl rfl α'45 Tk Az (by rfl) ?_
  have sp_22:=Rv.more_spec k
  refine qM rfl rfl rfl rfl rfl rfl κ'76 (sp_22) Ts ?_
  rintro ⟨⟩ -
  try simp only [Ca,Na]
  refine qV (qR (qQ ?_))
  refine qD rfl (fun hg=>by exfalso;unfold relK at hg;omega) (fun hg=>?_)
  refine qF (qQ (kL rfl (.q 0 (.q 1 (.q 2 (.q 3 (.q 4 ((.l 5 [] (.done)))))))) Kr ?_))
  refine qK rfl rfl rfl rfl (qX rfl rfl rfl rfl (qG (k:=0) rfl rfl rfl rfl υ'111 rfl ζ'107 rfl ?_))
  refine qP (j:=0) rfl rfl rfl rfl α'107 Tk Az (by rfl) ?_
  refine kG rfl rfl rfl rfl α'47 ζ'47 Tk 0 (us:=[_,_,_]) Az rfl rfl ?_
  have sp_23:=Fe.rnext_spec pa pc cb x.ck hx.ck Om pl (hpl) k ((t:Nat):Int) ((o:Nat):Int)
  refine qM rfl rfl rfl rfl rfl rfl κ'85 (sp_23) Ts ?_
  rintro ⟨⟩ -
  try simp only [Ca,Na]
  refine qV (qR (qW [] (e':=[]) rfl ?_))
  refine sH ?_
  have hF:(vnF x k ((t:Nat):Int) ((o:Nat):Int))=⟨nxF x.ck k ((t:Nat):Int) ((o:Nat):Int),(upd x.th ((t:Nat):Int) (some (mgF (x.th ((o:Nat):Int)) l))),x.lk,x.vo,x.rd⟩:=(by rw [vn8 hth k8])
  refine optR_someF (b:=tb) (t:=(mgF (x.th ((o:Nat):Int)) l)) Td ?_
  refine cD (res:=optR) (V:=VT) (Y:=tabF x.ck.th.toNat x.th) (S:=[]) t (some ⟨tb,0,none⟩) (some (mgF (x.th ((o:Nat):Int)) l)) Ts (by simp) (by first | omega | (simp;omega)) (by rw [tab_len];omega) ?_
  rw [set_sameL hta,tab_set]
  refine rv_fold (b:=b) (vnF x k ((t:Nat):Int) ((o:Nat):Int)) (pa:=pa) (pc:=pc) (cb:=cb) (Ta:=Ta) (Tc:=Tc) (La:=La) (Lc:=Lc) (Oa:=Oa) (Oc:=Oc) (Ra:=Ra) (Rc:=Rc) (VT:=VT) (VL:=VL) (VO:=VO) (VR:=VR) (YR:=YR) Ts (by first | rfl | simp) (by first | rfl | simp) (by first | rfl | simp) (by first | rfl | simp) (by rw [hF]) (by rw [hF,hrest.2.1]) (by rw [hF,hrest.2.2.2.2]) (by rw [hF,hrest.2.2.2.1]) (by rw [hF,hrest.2.1];simpa using hVT) (by rw [hF,hrest.2.2.2.2];simpa using hVL) (by rw [hF,hrest.2.2.2.1];simpa using hVO) (by simpa using hVR) (by rw [hF];exact relK_keep hK hx.ck hc Om) ?_
  refine ret0 rfl (()) (by first | rfl | (first | rfl | (congr 1;done) | (congr 1 <;> first | rfl | omega | (simp;done) | (simp;omega)))) (by trivial) ?_
  exact Tf
 refine qL (qC (.q 0 (.q 1 (.done))) Kr ?_)
 refine qB rfl rfl rfl rfl rfl (cP _ _ _ _) ?_
 refine qS rfl rfl rfl rfl (qR (qQ ?_))
 refine qD rfl (fun k9=>?_) (fun k9=>?_)
 ·
  refine qL ?_
  have hlt:l.getD t 0 < maxC:=by
    have h9:=hv.2 (by unfold relK;omega)
    rw [thF_eq hth,Int.toNat_natCast] at h9;exact h9
  obtain ⟨p0,p1,p2,p3⟩:=o9 k9
  refine kL rfl (.q 0 (.q 1 (.q 2 (.q 3 (.q 4 (.q 5 ((.alt (.l 6 [] (.q 7 (.q 8 (.q 9 ((.l 10 [] ((.l 11 [] (.q 12 (.done)))))))))) (.l 10 [3,5] ((.l 6 [] (.q 7 (.q 8 (.q 9 ((.l 11 [] (.q 12 (.done)))))))))))))))))) Kr ?_
  refine qK rfl rfl rfl rfl (qX rfl rfl rfl rfl (qG (k:=0) rfl rfl rfl rfl υ'111 rfl ζ'107 rfl ?_))
  refine qP (j:=0) rfl rfl rfl rfl α'107 Tk Az (by rfl) ?_
  refine qG (k:=2) rfl rfl rfl rfl υ'47 rfl ζ'3 rfl ?_
  refine qP (j:=2) rfl rfl rfl rfl α'3 Tk Az (by rfl) ?_
  refine r_alt ?_ ?_
  ·
   have sp_24:=Fe.rround_spec pa pc cb x.ck ((o:Nat):Int)
   refine qM rfl rfl rfl rfl rfl rfl Tryz.call81 (sp_24) Ts ?_
   rintro ⟨⟩ -
   try simp only [Ca,Na]
   refine qV (qK rfl rfl rfl rfl (kY rfl rfl rfl rfl rfl (kB 113 rfl (v':=.agg #[.int .i64 ((opF x.ck ((o:Nat):Int)).1),.int .i64 ((opF x.ck ((o:Nat):Int)).2)]) (by rw [if_pos (show 0≤((o:Nat):Int)∧((o:Nat):Int) < (x.ck.B.length:Int) by omega)]) ?_)))
   refine kY rfl rfl rfl rfl rfl (sD rfl rfl rfl ω'141 (zs:=[.int .i64 0,.int .i64 0]) rfl ?_)
   intro b6
   refine qV (kH (j:=0) rfl rfl rfl rfl ζ'141 (us:=[_,_]) rfl rfl rfl Tk Az (by first | decide | (simp;done) | omega) ?_)
   simp only [setL,List.set]
   refine qV (qS rfl rfl rfl rfl (qR (qW [0,3,4,6] (e':=[(0,_),(3,_),(4,_),(6,_)]) rfl ?_)))
   refine qQ (s_krk (V:=VR) (Y:=YR) Tk fun hkr=>?_)
   refine qC (.q 0 (.q 1 (.q 2 (.q 3 (.q 4 (.q 5 ((.l 6 [] (.done))))))))) Kr ?_
   refine qK rfl rfl rfl rfl (qG (k:=2) rfl rfl rfl rfl υ'47 rfl ζ'3 rfl ?_)
   refine qP (j:=2) rfl rfl rfl rfl α'3 Tk Az (by rfl) ?_
   refine qG (k:=0) rfl rfl rfl rfl υ'141 rfl ζ'3 rfl ?_
   refine qP (j:=0) rfl rfl rfl rfl α'3 Tk Az (by rfl) ?_
   refine qK rfl rfl rfl rfl ?_
   have hrl:=hK.Rl
   rcases Classical.em (∃ (j:Nat) (q:KP),VR[j]?=some q∧q.1=((o:Nat):Int)∧q.2.1=(opF x.ck ((o:Nat):Int)).1) with hex | hno
   ·
    have sp_25:=keep_yes b Rc tb (.pointer (some ⟨cb,0,none⟩)) (.slice Ta VT.length Tc) (.slice La VL.length Lc) (.slice Oa VO.length Oc) Ra VR YR ((o:Nat):Int) ((opF x.ck ((o:Nat):Int)).1) l hVR Om hex
    refine qM rfl rfl rfl rfl rfl rfl κ'82 (sp_25) Ts ?_
    rintro ri ⟨yq,hyq,hyq1,hyq2⟩
    have hyg:YR.getD ri (0,0,[])=yq:=by rw [List.getD_eq_getElem?_getD,hyq];rfl
    rw [hyg]
    try simp only [Ca,Na]
    refine qV (qR (qW [0,3,4] (e':=[(0,_),(3,_),(4,_)]) rfl ?_))
    refine kX (qQ (qL (qL (qC (.q 0 (.q 1 ((.l 2 [] (.done))))) Kr ?_))))
    refine qG (k:=0) rfl rfl rfl rfl υ'47 rfl ζ'45 rfl ?_
    refine qP (j:=0) rfl rfl rfl rfl α'45 Tk Az (by rfl) ?_
    have sp_26:=Rv.more_spec k
    refine qM rfl rfl rfl rfl rfl rfl κ'76 (sp_26) Ts ?_
    rintro ⟨⟩ -
    try simp only [Ca,Na]
    refine qV (qR (qQ ?_))
    refine qD rfl (fun hg=>?_) (fun hg=>by exfalso;exact hg (by unfold relK;omega))
    refine qC (.q 0 (.q 1 (.q 2 ((.l 3 [] (.done)))))) Kr ?_
    refine qK rfl rfl rfl rfl (qG (k:=1) rfl rfl rfl rfl υ'47 rfl ζ'3 rfl ?_)
    refine qP (j:=1) rfl rfl rfl rfl α'3 Tk Az (by rfl) ?_
    have sp_27:=Rv.inc_spec tb l t Om (hlt)
    refine qM rfl rfl rfl rfl rfl rfl κ'74 (sp_27) Ts ?_
    rintro ⟨⟩ -
    try simp only [Ca,Na]
    refine qV (qR (qW [0,3] (e':=[(0,_),(3,_)]) rfl ?_))
    refine qQ (kL rfl (.q 0 (.q 1 (.q 2 (.q 3 (.q 4 ((.l 5 [] (.done)))))))) Kr ?_)
    refine qK rfl rfl rfl rfl (qX rfl rfl rfl rfl (qG (k:=0) rfl rfl rfl rfl υ'111 rfl ζ'107 rfl ?_))
    refine qP (j:=0) rfl rfl rfl rfl α'107 Tk Az (by rfl) ?_
    refine kG rfl rfl rfl rfl α'47 ζ'47 Tk 0 (us:=[_,_,_]) Az rfl rfl ?_
    have sp_28:=Fe.rnext_spec pa pc cb x.ck hx.ck Om pl (hpl) k ((t:Nat):Int) ((o:Nat):Int)
    refine qM rfl rfl rfl rfl rfl rfl κ'85 (sp_28) Ts ?_
    rintro ⟨⟩ -
    try simp only [Ca,Na]
    refine qV (qR (qW [] (e':=[]) rfl ?_))
    refine sH ?_
    have hF:(vnF x k ((t:Nat):Int) ((o:Nat):Int))=⟨nxF x.ck k ((t:Nat):Int) ((o:Nat):Int),(upd x.th ((t:Nat):Int) (some (icL l t))),x.lk,x.vo,(upd x.rd (((o:Nat):Int),(opF x.ck ((o:Nat):Int)).1) (some (mgF ((x.rd (((o:Nat):Int),(opF x.ck ((o:Nat):Int)).1)).map (·.1)) l,x.ck.pa.getD o 0)))⟩:=(by rw [vn9 hth k9];(try simp only [Int.toNat_natCast]))
    obtain ⟨hyc,-,hyr⟩:=hK.Rk yq (List.mem_of_getElem? hyq)
    have hyv:mgF (some l) yq.2.2=mgF ((x.rd (((o:Nat):Int),(opF x.ck ((o:Nat):Int)).1)).map (·.1)) l:=by
      have h9:=hK.Rc yq (List.mem_of_getElem? hyq) (by rw [hyq1,hyq2])
      rw [hyq1,hyq2] at h9 hyr
      obtain ⟨p,hp⟩:=Option.isSome_iff_exists.1 h9
      rw [hp,hyr p hp];exact jn_comm (hx.rdc _ _ hp) hlc
    rw [hyv]
    refine optR_someF (b:=tb) (t:=(icL l t)) Td ?_
    refine cD (res:=optR) (V:=VT) (Y:=tabF x.ck.th.toNat x.th) (S:=[]) t (some ⟨tb,0,none⟩) (some (icL l t)) Ts (by simp) (by first | omega | (simp;omega)) (by rw [tab_len];omega) ?_
    rw [set_sameL hta,tab_set]
    refine rv_fold (b:=b) (vnF x k ((t:Nat):Int) ((o:Nat):Int)) (pa:=pa) (pc:=pc) (cb:=cb) (Ta:=Ta) (Tc:=Tc) (La:=La) (Lc:=Lc) (Oa:=Oa) (Oc:=Oc) (Ra:=Ra) (Rc:=Rc) (VT:=VT) (VL:=VL) (VO:=VO) (VR:=VR) (YR:=(YR.set ri (yq.1,yq.2.1,mgF ((x.rd (((o:Nat):Int),(opF x.ck ((o:Nat):Int)).1)).map (·.1)) l))) Ts (by first | rfl | simp) (by first | rfl | simp) (by first | rfl | simp) (by first | rfl | simp) (by rw [hF]) (by rw [hF,hrest.2.1]) (by rw [hF,hrest.2.2.2.2]) (by rw [hF,hrest.2.2.2.1]) (by rw [hF,hrest.2.1];simpa using hVT) (by rw [hF,hrest.2.2.2.2];simpa using hVL) (by rw [hF,hrest.2.2.2.1];simpa using hVO) (by simpa using hVR) (by rw [hF];exact arr_yes hx.ck hK k9 hc hyq hyq1 hyq2 (mg_cv hlc fun q_ h_=>map_fst_cv hx h_)) ?_
    refine ret0 rfl (()) (by first | rfl | (first | rfl | (congr 1;done) | (congr 1 <;> first | rfl | omega | (simp;done) | (simp;omega)))) (by trivial) ?_
    exact Tf
   have sp_29:=keep_no b Rc tb (.pointer (some ⟨cb,0,none⟩)) (.slice Ta VT.length Tc) (.slice La VL.length Lc) (.slice Oa VO.length Oc) Ra VR YR ((o:Nat):Int) ((opF x.ck ((o:Nat):Int)).1) l hVR Om hno
   refine qM rfl rfl rfl rfl rfl rfl κ'82 (sp_29) Ts ?_
   rintro ⟨qb,ra2,rc2⟩ -
   try simp only [Ca,Na]
   refine qV (qR (qW [0,3,4] (e':=[(0,_),(3,_),(4,_)]) rfl ?_))
   refine kX (qQ (qL (qL (qC (.q 0 (.q 1 ((.l 2 [] (.done))))) Kr ?_))))
   refine qG (k:=0) rfl rfl rfl rfl υ'47 rfl ζ'45 rfl ?_
   refine qP (j:=0) rfl rfl rfl rfl α'45 Tk Az (by rfl) ?_
   have sp_30:=Rv.more_spec k
   refine qM rfl rfl rfl rfl rfl rfl κ'76 (sp_30) Ts ?_
   rintro ⟨⟩ -
   try simp only [Ca,Na]
   refine qV (qR (qQ ?_))
   refine qD rfl (fun hg=>?_) (fun hg=>by exfalso;exact hg (by unfold relK;omega))
   refine qC (.q 0 (.q 1 (.q 2 ((.l 3 [] (.done)))))) Kr ?_
   refine qK rfl rfl rfl rfl (qG (k:=1) rfl rfl rfl rfl υ'47 rfl ζ'3 rfl ?_)
   refine qP (j:=1) rfl rfl rfl rfl α'3 Tk Az (by rfl) ?_
   have sp_31:=Rv.inc_spec tb l t Om (hlt)
   refine qM rfl rfl rfl rfl rfl rfl κ'74 (sp_31) Ts ?_
   rintro ⟨⟩ -
   try simp only [Ca,Na]
   refine qV (qR (qW [0,3] (e':=[(0,_),(3,_)]) rfl ?_))
   refine qQ (kL rfl (.q 0 (.q 1 (.q 2 (.q 3 (.q 4 ((.l 5 [] (.done)))))))) Kr ?_)
   refine qK rfl rfl rfl rfl (qX rfl rfl rfl rfl (qG (k:=0) rfl rfl rfl rfl υ'111 rfl ζ'107 rfl ?_))
   refine qP (j:=0) rfl rfl rfl rfl α'107 Tk Az (by rfl) ?_
   refine kG rfl rfl rfl rfl α'47 ζ'47 Tk 0 (us:=[_,_,_]) Az rfl rfl ?_
   have sp_32:=Fe.rnext_spec pa pc cb x.ck hx.ck Om pl (hpl) k ((t:Nat):Int) ((o:Nat):Int)
   refine qM rfl rfl rfl rfl rfl rfl κ'85 (sp_32) Ts ?_
   rintro ⟨⟩ -
   try simp only [Ca,Na]
   refine qV (qR (qW [] (e':=[]) rfl ?_))
   refine sH ?_
   have hF:(vnF x k ((t:Nat):Int) ((o:Nat):Int))=⟨nxF x.ck k ((t:Nat):Int) ((o:Nat):Int),(upd x.th ((t:Nat):Int) (some (icL l t))),x.lk,x.vo,(upd x.rd (((o:Nat):Int),(opF x.ck ((o:Nat):Int)).1) (some (mgF ((x.rd (((o:Nat):Int),(opF x.ck ((o:Nat):Int)).1)).map (·.1)) l,x.ck.pa.getD o 0)))⟩:=(by rw [vn9 hth k9];(try simp only [Int.toNat_natCast]))
   have hnoy:¬ ∃ (j:Nat) (q:RK),YR[j]?=some q∧q.1=((o:Nat):Int)∧q.2.1=(opF x.ck ((o:Nat):Int)).1:=by
     rintro ⟨j,y,hj,e1,e2⟩
     have hjl:=(List.getElem?_eq_some_iff.1 hj).1
     obtain ⟨v,hv9⟩:=cR (l:=VR) (i:=j) Om
     obtain ⟨e3,e4⟩:=hkr j v _ hv9 hj
     exact hno ⟨j,v,hv9,e3.trans e1,e4.trans e2⟩
   have hyv:l=mgF ((x.rd (((o:Nat):Int),(opF x.ck ((o:Nat):Int)).1)).map (·.1)) l:=by
     cases hp:x.rd (((o:Nat):Int),(opF x.ck ((o:Nat):Int)).1) with
     | none=>rfl
     | some p =>
       obtain ⟨g,hg⟩:=hK.Re _ _ p hp
       obtain ⟨j,hj⟩:=List.getElem?_of_mem hg
       exact absurd ⟨j,_,hj,rfl,rfl⟩ hnoy
   refine optR_someF (b:=tb) (t:=(icL l t)) Td ?_
   refine cD (res:=optR) (V:=VT) (Y:=tabF x.ck.th.toNat x.th) (S:=[]) t (some ⟨tb,0,none⟩) (some (icL l t)) Ts (by simp) (by first | omega | (simp;omega)) (by rw [tab_len];omega) ?_
   rw [set_sameL hta,tab_set]
   refine rv_fold (b:=b) (vnF x k ((t:Nat):Int) ((o:Nat):Int)) (pa:=pa) (pc:=pc) (cb:=cb) (Ta:=Ta) (Tc:=Tc) (La:=La) (Lc:=Lc) (Oa:=Oa) (Oc:=Oc) (Ra:=ra2) (Rc:=rc2) (VT:=VT) (VL:=VL) (VO:=VO) (VR:=(VR++[((((o:Nat):Int),(opF x.ck ((o:Nat):Int)).1,some ⟨qb,0,none⟩):KP)])) (YR:=(YR++[((((o:Nat):Int),(opF x.ck ((o:Nat):Int)).1,l):RK)])) Ts (by first | rfl | simp) (by first | rfl | simp) (by first | rfl | simp) (by first | rfl | simp) (by rw [hF]) (by rw [hF,hrest.2.1]) (by rw [hF,hrest.2.2.2.2]) (by rw [hF,hrest.2.2.2.1]) (by rw [hF,hrest.2.1];simpa using hVT) (by rw [hF,hrest.2.2.2.2];simpa using hVL) (by rw [hF,hrest.2.2.2.1];simpa using hVO) (by simpa using hVR) (by rw [hF];exact (by rw [← hyv];exact arr_no hx.ck hK k9 hc hnoy hlc)) ?_
   refine ret0 rfl (()) (by first | rfl | (first | rfl | (congr 1;done) | (congr 1 <;> first | rfl | omega | (simp;done) | (simp;omega)))) (by trivial) ?_
   exact Tf
  refine sD rfl rfl rfl ω'141 (zs:=[.int .i64 0,.int .i64 0]) rfl ?_
  intro b6
  refine qH (q:=0) rfl rfl rfl α'107 Tk Az (by rfl) ?_
  refine qH (q:=2) rfl rfl rfl α'3 Tk Az (by rfl) ?_
  refine qV ?_
  have sp_33:=Fe.rround_spec pa pc cb x.ck ((o:Nat):Int)
  refine qM rfl rfl rfl rfl rfl rfl Tryz.call81 (sp_33) Ts ?_
  rintro ⟨⟩ -
  try simp only [Ca,Na]
  refine qV (qK rfl rfl rfl rfl (kY rfl rfl rfl rfl rfl (kB 113 rfl (v':=.agg #[.int .i64 ((opF x.ck ((o:Nat):Int)).1),.int .i64 ((opF x.ck ((o:Nat):Int)).2)]) (by rw [if_pos (show 0≤((o:Nat):Int)∧((o:Nat):Int) < (x.ck.B.length:Int) by omega)]) ?_)))
  refine kY rfl rfl rfl rfl rfl (kH (j:=0) rfl rfl rfl rfl ζ'141 (us:=[_,_]) rfl rfl rfl Tk Az (by first | decide | (simp;done) | omega) ?_)
  simp only [setL,List.set]
  refine qV (qS rfl rfl rfl rfl (qR (qW [0,3,4,6] (e':=[(0,_),(3,_),(4,_),(6,_)]) rfl ?_)))
  refine qQ (s_krk (V:=VR) (Y:=YR) Tk fun hkr=>?_)
  refine qC (.q 0 (.q 1 (.q 2 (.q 3 (.q 4 (.q 5 ((.l 6 [] (.done))))))))) Kr ?_
  refine qK rfl rfl rfl rfl (qG (k:=2) rfl rfl rfl rfl υ'47 rfl ζ'3 rfl ?_)
  refine qP (j:=2) rfl rfl rfl rfl α'3 Tk Az (by rfl) ?_
  refine qG (k:=0) rfl rfl rfl rfl υ'141 rfl ζ'3 rfl ?_
  refine qP (j:=0) rfl rfl rfl rfl α'3 Tk Az (by rfl) ?_
  refine qK rfl rfl rfl rfl ?_
  have hrl:=hK.Rl
  rcases Classical.em (∃ (j:Nat) (q:KP),VR[j]?=some q∧q.1=((o:Nat):Int)∧q.2.1=(opF x.ck ((o:Nat):Int)).1) with hex | hno
  ·
   have sp_34:=keep_yes b Rc tb (.pointer (some ⟨cb,0,none⟩)) (.slice Ta VT.length Tc) (.slice La VL.length Lc) (.slice Oa VO.length Oc) Ra VR YR ((o:Nat):Int) ((opF x.ck ((o:Nat):Int)).1) l hVR Om hex
   refine qM rfl rfl rfl rfl rfl rfl κ'82 (sp_34) Ts ?_
   rintro ri ⟨yq,hyq,hyq1,hyq2⟩
   have hyg:YR.getD ri (0,0,[])=yq:=by rw [List.getD_eq_getElem?_getD,hyq];rfl
   rw [hyg]
   try simp only [Ca,Na]
   refine qV (qR (qW [0,3,4] (e':=[(0,_),(3,_),(4,_)]) rfl ?_))
   refine kX (qQ (qL (qL (qC (.q 0 (.q 1 ((.l 2 [] (.done))))) Kr ?_))))
   refine qG (k:=0) rfl rfl rfl rfl υ'47 rfl ζ'45 rfl ?_
   refine qP (j:=0) rfl rfl rfl rfl α'45 Tk Az (by rfl) ?_
   have sp_35:=Rv.more_spec k
   refine qM rfl rfl rfl rfl rfl rfl κ'76 (sp_35) Ts ?_
   rintro ⟨⟩ -
   try simp only [Ca,Na]
   refine qV (qR (qQ ?_))
   refine qD rfl (fun hg=>?_) (fun hg=>by exfalso;exact hg (by unfold relK;omega))
   refine qC (.q 0 (.q 1 (.q 2 ((.l 3 [] (.done)))))) Kr ?_
   refine qK rfl rfl rfl rfl (qG (k:=1) rfl rfl rfl rfl υ'47 rfl ζ'3 rfl ?_)
   refine qP (j:=1) rfl rfl rfl rfl α'3 Tk Az (by rfl) ?_
   have sp_36:=Rv.inc_spec tb l t Om (hlt)
   refine qM rfl rfl rfl rfl rfl rfl κ'74 (sp_36) Ts ?_
   rintro ⟨⟩ -
   try simp only [Ca,Na]
   refine qV (qR (qW [0,3] (e':=[(0,_),(3,_)]) rfl ?_))
   refine qQ (kL rfl (.q 0 (.q 1 (.q 2 (.q 3 (.q 4 ((.l 5 [] (.done)))))))) Kr ?_)
   refine qK rfl rfl rfl rfl (qX rfl rfl rfl rfl (qG (k:=0) rfl rfl rfl rfl υ'111 rfl ζ'107 rfl ?_))
   refine qP (j:=0) rfl rfl rfl rfl α'107 Tk Az (by rfl) ?_
   refine kG rfl rfl rfl rfl α'47 ζ'47 Tk 0 (us:=[_,_,_]) Az rfl rfl ?_
   have sp_37:=Fe.rnext_spec pa pc cb x.ck hx.ck Om pl (hpl) k ((t:Nat):Int) ((o:Nat):Int)
   refine qM rfl rfl rfl rfl rfl rfl κ'85 (sp_37) Ts ?_
   rintro ⟨⟩ -
   try simp only [Ca,Na]
   refine qV (qR (qW [] (e':=[]) rfl ?_))
   refine sH ?_
   have hF:(vnF x k ((t:Nat):Int) ((o:Nat):Int))=⟨nxF x.ck k ((t:Nat):Int) ((o:Nat):Int),(upd x.th ((t:Nat):Int) (some (icL l t))),x.lk,x.vo,(upd x.rd (((o:Nat):Int),(opF x.ck ((o:Nat):Int)).1) (some (mgF ((x.rd (((o:Nat):Int),(opF x.ck ((o:Nat):Int)).1)).map (·.1)) l,x.ck.pa.getD o 0)))⟩:=(by rw [vn9 hth k9];(try simp only [Int.toNat_natCast]))
   obtain ⟨hyc,-,hyr⟩:=hK.Rk yq (List.mem_of_getElem? hyq)
   have hyv:mgF (some l) yq.2.2=mgF ((x.rd (((o:Nat):Int),(opF x.ck ((o:Nat):Int)).1)).map (·.1)) l:=by
     have h9:=hK.Rc yq (List.mem_of_getElem? hyq) (by rw [hyq1,hyq2])
     rw [hyq1,hyq2] at h9 hyr
     obtain ⟨p,hp⟩:=Option.isSome_iff_exists.1 h9
     rw [hp,hyr p hp];exact jn_comm (hx.rdc _ _ hp) hlc
   rw [hyv]
   refine optR_someF (b:=tb) (t:=(icL l t)) Td ?_
   refine cD (res:=optR) (V:=VT) (Y:=tabF x.ck.th.toNat x.th) (S:=[]) t (some ⟨tb,0,none⟩) (some (icL l t)) Ts (by simp) (by first | omega | (simp;omega)) (by rw [tab_len];omega) ?_
   rw [set_sameL hta,tab_set]
   refine rv_fold (b:=b) (vnF x k ((t:Nat):Int) ((o:Nat):Int)) (pa:=pa) (pc:=pc) (cb:=cb) (Ta:=Ta) (Tc:=Tc) (La:=La) (Lc:=Lc) (Oa:=Oa) (Oc:=Oc) (Ra:=Ra) (Rc:=Rc) (VT:=VT) (VL:=VL) (VO:=VO) (VR:=VR) (YR:=(YR.set ri (yq.1,yq.2.1,mgF ((x.rd (((o:Nat):Int),(opF x.ck ((o:Nat):Int)).1)).map (·.1)) l))) Ts (by first | rfl | simp) (by first | rfl | simp) (by first | rfl | simp) (by first | rfl | simp) (by rw [hF]) (by rw [hF,hrest.2.1]) (by rw [hF,hrest.2.2.2.2]) (by rw [hF,hrest.2.2.2.1]) (by rw [hF,hrest.2.1];simpa using hVT) (by rw [hF,hrest.2.2.2.2];simpa using hVL) (by rw [hF,hrest.2.2.2.1];simpa using hVO) (by simpa using hVR) (by rw [hF];exact arr_yes hx.ck hK k9 hc hyq hyq1 hyq2 (mg_cv hlc fun q_ h_=>map_fst_cv hx h_)) ?_
   refine ret0 rfl (()) (by first | rfl | (first | rfl | (congr 1;done) | (congr 1 <;> first | rfl | omega | (simp;done) | (simp;omega)))) (by trivial) ?_
   exact Tf
  have sp_38:=keep_no b Rc tb (.pointer (some ⟨cb,0,none⟩)) (.slice Ta VT.length Tc) (.slice La VL.length Lc) (.slice Oa VO.length Oc) Ra VR YR ((o:Nat):Int) ((opF x.ck ((o:Nat):Int)).1) l hVR Om hno
  refine qM rfl rfl rfl rfl rfl rfl κ'82 (sp_38) Ts ?_
  rintro ⟨qb,ra2,rc2⟩ -
  try simp only [Ca,Na]
  refine qV (qR (qW [0,3,4] (e':=[(0,_),(3,_),(4,_)]) rfl ?_))
  refine kX (qQ (qL (qL (qC (.q 0 (.q 1 ((.l 2 [] (.done))))) Kr ?_))))
  refine qG (k:=0) rfl rfl rfl rfl υ'47 rfl ζ'45 rfl ?_
  refine qP (j:=0) rfl rfl rfl rfl α'45 Tk Az (by rfl) ?_
  have sp_39:=Rv.more_spec k
  refine qM rfl rfl rfl rfl rfl rfl κ'76 (sp_39) Ts ?_
  rintro ⟨⟩ -
  try simp only [Ca,Na]
  refine qV (qR (qQ ?_))
  refine qD rfl (fun hg=>?_) (fun hg=>by exfalso;exact hg (by unfold relK;omega))
  refine qC (.q 0 (.q 1 (.q 2 ((.l 3 [] (.done)))))) Kr ?_
  refine qK rfl rfl rfl rfl (qG (k:=1) rfl rfl rfl rfl υ'47 rfl ζ'3 rfl ?_)
  refine qP (j:=1) rfl rfl rfl rfl α'3 Tk Az (by rfl) ?_
  have sp_40:=Rv.inc_spec tb l t Om (hlt)
  refine qM rfl rfl rfl rfl rfl rfl κ'74 (sp_40) Ts ?_
  rintro ⟨⟩ -
  try simp only [Ca,Na]
  refine qV (qR (qW [0,3] (e':=[(0,_),(3,_)]) rfl ?_))
  refine qQ (kL rfl (.q 0 (.q 1 (.q 2 (.q 3 (.q 4 ((.l 5 [] (.done)))))))) Kr ?_)
  refine qK rfl rfl rfl rfl (qX rfl rfl rfl rfl (qG (k:=0) rfl rfl rfl rfl υ'111 rfl ζ'107 rfl ?_))
  refine qP (j:=0) rfl rfl rfl rfl α'107 Tk Az (by rfl) ?_
  refine kG rfl rfl rfl rfl α'47 ζ'47 Tk 0 (us:=[_,_,_]) Az rfl rfl ?_
  have sp_41:=Fe.rnext_spec pa pc cb x.ck hx.ck Om pl (hpl) k ((t:Nat):Int) ((o:Nat):Int)
  refine qM rfl rfl rfl rfl rfl rfl κ'85 (sp_41) Ts ?_
  rintro ⟨⟩ -
  try simp only [Ca,Na]
  refine qV (qR (qW [] (e':=[]) rfl ?_))
  refine sH ?_
  have hF:(vnF x k ((t:Nat):Int) ((o:Nat):Int))=⟨nxF x.ck k ((t:Nat):Int) ((o:Nat):Int),(upd x.th ((t:Nat):Int) (some (icL l t))),x.lk,x.vo,(upd x.rd (((o:Nat):Int),(opF x.ck ((o:Nat):Int)).1) (some (mgF ((x.rd (((o:Nat):Int),(opF x.ck ((o:Nat):Int)).1)).map (·.1)) l,x.ck.pa.getD o 0)))⟩:=(by rw [vn9 hth k9];(try simp only [Int.toNat_natCast]))
  have hnoy:¬ ∃ (j:Nat) (q:RK),YR[j]?=some q∧q.1=((o:Nat):Int)∧q.2.1=(opF x.ck ((o:Nat):Int)).1:=by
    rintro ⟨j,y,hj,e1,e2⟩
    have hjl:=(List.getElem?_eq_some_iff.1 hj).1
    obtain ⟨v,hv9⟩:=cR (l:=VR) (i:=j) Om
    obtain ⟨e3,e4⟩:=hkr j v _ hv9 hj
    exact hno ⟨j,v,hv9,e3.trans e1,e4.trans e2⟩
  have hyv:l=mgF ((x.rd (((o:Nat):Int),(opF x.ck ((o:Nat):Int)).1)).map (·.1)) l:=by
    cases hp:x.rd (((o:Nat):Int),(opF x.ck ((o:Nat):Int)).1) with
    | none=>rfl
    | some p =>
      obtain ⟨g,hg⟩:=hK.Re _ _ p hp
      obtain ⟨j,hj⟩:=List.getElem?_of_mem hg
      exact absurd ⟨j,_,hj,rfl,rfl⟩ hnoy
  refine optR_someF (b:=tb) (t:=(icL l t)) Td ?_
  refine cD (res:=optR) (V:=VT) (Y:=tabF x.ck.th.toNat x.th) (S:=[]) t (some ⟨tb,0,none⟩) (some (icL l t)) Ts (by simp) (by first | omega | (simp;omega)) (by rw [tab_len];omega) ?_
  rw [set_sameL hta,tab_set]
  refine rv_fold (b:=b) (vnF x k ((t:Nat):Int) ((o:Nat):Int)) (pa:=pa) (pc:=pc) (cb:=cb) (Ta:=Ta) (Tc:=Tc) (La:=La) (Lc:=Lc) (Oa:=Oa) (Oc:=Oc) (Ra:=ra2) (Rc:=rc2) (VT:=VT) (VL:=VL) (VO:=VO) (VR:=(VR++[((((o:Nat):Int),(opF x.ck ((o:Nat):Int)).1,some ⟨qb,0,none⟩):KP)])) (YR:=(YR++[((((o:Nat):Int),(opF x.ck ((o:Nat):Int)).1,l):RK)])) Ts (by first | rfl | simp) (by first | rfl | simp) (by first | rfl | simp) (by first | rfl | simp) (by rw [hF]) (by rw [hF,hrest.2.1]) (by rw [hF,hrest.2.2.2.2]) (by rw [hF,hrest.2.2.2.1]) (by rw [hF,hrest.2.1];simpa using hVT) (by rw [hF,hrest.2.2.2.2];simpa using hVL) (by rw [hF,hrest.2.2.2.1];simpa using hVO) (by simpa using hVR) (by rw [hF];exact (by rw [← hyv];exact arr_no hx.ck hK k9 hc hnoy hlc)) ?_
  refine ret0 rfl (()) (by first | rfl | (first | rfl | (congr 1;done) | (congr 1 <;> first | rfl | omega | (simp;done) | (simp;omega)))) (by trivial) ?_
  exact Tf
 refine qL (qC (.q 0 (.q 1 (.done))) Kr ?_)
 refine qB rfl rfl rfl rfl rfl (cP _ _ _ _) ?_
 refine qS rfl rfl rfl rfl (qR (qW [0,3,4,122] (e':=[(0,_),(3,_),(4,_),(122,_)]) rfl ?_))
 refine qQ ?_
 refine qD rfl (fun k10=>?_) (fun k10=>?_)
 ·
  refine qL ?_
  obtain ⟨q1,q2,q3⟩:=o10 k10
  obtain ⟨p,hrd,hp1⟩:=rd_some hx q1 q3
  have hrf:rdF x (((o:Nat):Int),(stF x.ck ((t:Nat):Int)).2.2)=p:=by rw [rdF,hrd];rfl
  have hrlt:(stF x.ck ((t:Nat):Int)).2.2 < (opF x.ck ((o:Nat):Int)).1:=by rw [q3];exact q2.2
  refine kL rfl (.q 0 (.q 1 (.q 2 (.q 3 (.q 4 (.q 5 ((.alt (.l 6 [] (.q 7 (.q 8 (.q 9 ((.l 10 [] ((.l 11 [] (.q 12 (.done)))))))))) (.l 10 [3,5] ((.l 6 [] (.q 7 (.q 8 (.q 9 ((.l 11 [] (.q 12 (.done)))))))))))))))))) Kr ?_
  refine qK rfl rfl rfl rfl (qX rfl rfl rfl rfl (qG (k:=0) rfl rfl rfl rfl υ'111 rfl ζ'107 rfl ?_))
  refine qP (j:=0) rfl rfl rfl rfl α'107 Tk Az (by rfl) ?_
  refine qG (k:=1) rfl rfl rfl rfl υ'47 rfl ζ'3 rfl ?_
  refine qP (j:=1) rfl rfl rfl rfl α'3 Tk Az (by rfl) ?_
  refine r_alt ?_ ?_
  ·
   have sp_42:=Fe.rstand_spec pa pc cb x.ck hx.ck ((t:Nat):Int)
   refine qM rfl rfl rfl rfl rfl rfl Tryz.call83 (sp_42) Ts ?_
   rintro ⟨⟩ -
   try simp only [Ca,Na]
   refine qV (qK rfl rfl rfl rfl (kY rfl rfl rfl rfl rfl (kY rfl rfl rfl rfl rfl (sD rfl rfl rfl ω'166 (zs:=[.int .i64 0,.int .i64 0,.int .i64 0]) rfl ?_))))
   intro b8
   refine qV (kH (j:=0) rfl rfl rfl rfl ζ'166 (us:=[_,_,_]) rfl rfl rfl Tk Az (by first | decide | (simp;done) | omega) ?_)
   simp only [setL,List.set]
   refine qV (qS rfl rfl rfl rfl (qR (qW [0,3,4,8] (e':=[(0,_),(3,_),(4,_),(8,_)]) rfl ?_)))
   refine qQ (s_krk (V:=VR) (Y:=YR) Tk fun hkr=>?_)
   have hrl:=hK.Rl
   have hex:∃ (j:Nat) (q:KP),VR[j]?=some q∧q.1=((o:Nat):Int)∧q.2.1=(stF x.ck ((t:Nat):Int)).2.2:=by
     obtain ⟨g,hg⟩:=hK.Re _ _ p hrd
     obtain ⟨j,hj⟩:=List.getElem?_of_mem hg
     have hjl:=(List.getElem?_eq_some_iff.1 hj).1
     obtain ⟨v,hv9⟩:=cR (l:=VR) (i:=j) Om
     obtain ⟨e1,e2⟩:=hkr j v _ hv9 hj
     exact ⟨j,v,hv9,e1,e2⟩
   refine kL rfl (.q 0 (.q 1 (.q 2 (.q 3 (.q 4 (.q 5 (.q 6 (.q 7 (.q 8 (.q 9 ((.l 10 [4] (.q 11 (.q 12 (.q 13 ((.l 14 [] (.done)))))))))))))))))) Kr ?_
   refine qK rfl rfl rfl rfl (qK rfl rfl rfl rfl (qX rfl rfl rfl rfl (qG (k:=4) rfl rfl rfl rfl υ'111 rfl ζ'109 rfl ?_)))
   refine qP (j:=4) rfl rfl rfl rfl α'109 Tk Az (by rfl) ?_
   refine qK rfl rfl rfl rfl (qG (k:=2) rfl rfl rfl rfl υ'47 rfl ζ'3 rfl ?_)
   refine qP (j:=2) rfl rfl rfl rfl α'3 Tk Az (by rfl) ?_
   refine qG (k:=2) rfl rfl rfl rfl υ'166 rfl ζ'3 rfl ?_
   refine qP (j:=2) rfl rfl rfl rfl α'3 Tk Az (by rfl) ?_
   have sp_43:=round_yes b VR.length Rc (.pointer (some ⟨cb,0,none⟩)) (.slice Ta VT.length Tc) (.slice La VL.length Lc) (.slice Oa VO.length Oc) Ra VR ((o:Nat):Int) ((stF x.ck ((t:Nat):Int)).2.2) Ln Om hex
   refine qM rfl rfl rfl rfl rfl rfl κ'84 (sp_43) Ts ?_
   rintro ri ⟨rq,hrq,hrq1,hrq2⟩
   have hril:=(List.getElem?_eq_some_iff.1 hrq).1
   try simp only [Ca,Na]
   refine qH (q:=4) rfl rfl rfl α'109 Tk Az (by rfl) ?_
   refine qV ?_
   obtain ⟨yq,hyq⟩:=cR (l:=YR) (i:=ri) Om
   obtain ⟨e1,e2⟩:=hkr ri rq yq hrq hyq
   obtain ⟨hyc,-,hyr⟩:=hK.Rk yq (List.mem_of_getElem? hyq)
   have hypt:yq.2.2=p.1:=hyr p (by rw [← e1,← e2,hrq1,hrq2];exact hrd)
   refine cZ (res:=krA) (V:=VR) (Y:=YR) (S:=[]) ri Tk (by simp) hyq fun v hvr=>?_
   refine s_kr Tk fun rb hrb=>?_
   have hvq:rq=(yq.1,yq.2.1,some ⟨rb,0,none⟩):=by rw [hrq] at hvr;cases hvr;exact hrb
   rw [hvq] at hrq
   rw [hrb] at hvr
   refine kF (sz:=2) (k:=ri) (enc:=encK) (xs:=VR) rfl rfl rfl rfl rfl υ'109 ζ'170 hrq (by first | rfl | omega) Om Tk ?_
   intro ib145 io145 ha145 hl145 hc145
   refine qG (k:=2) rfl rfl rfl rfl υ'170 rfl ζ'102 rfl ?_
   refine kS (v:=(.pointer (some ⟨rb,0,none⟩))) (j:=2) (k':=ri) (enc:=encK) (off:=io145) rfl rfl rfl rfl α'102 ha145 encK_len hrq Tk (by first | rfl | exact (Ad _).symm | omega) (by rfl) ?_
   refine optR_someF (b:=rb) (t:=yq.2.2) Td ?_
   have sp_44:=joined_spec tb l (some ⟨rb,0,none⟩:Option Addr) (some yq.2.2)
   refine qM rfl rfl rfl rfl rfl rfl κ'80 (sp_44) Ts ?_
   rintro ⟨⟩ -
   try simp only [Ca,Na]
   refine qV (optR_some (a:=(some ⟨rb,0,none⟩)) (t:=yq.2.2) Td fun rb_ hrb_=>?_)
   cases hrb_
   refine s_krF rb yq Td ?_
   refine cY (res:=krA) (V:=VR) (Y:=YR) (S:=[]) ri Ts (by simp) hrq hyq ?_
   refine qR (qW [0,3,4] (e':=[(0,_),(3,_),(4,_)]) rfl ?_)
   refine kX (qQ (qL (qL (qC (.q 0 (.q 1 ((.l 2 [] (.done))))) Kr ?_))))
   refine qG (k:=0) rfl rfl rfl rfl υ'47 rfl ζ'45 rfl ?_
   refine qP (j:=0) rfl rfl rfl rfl α'45 Tk Az (by rfl) ?_
   have sp_45:=Rv.more_spec k
   refine qM rfl rfl rfl rfl rfl rfl κ'76 (sp_45) Ts ?_
   rintro ⟨⟩ -
   try simp only [Ca,Na]
   refine qV (qR (qQ ?_))
   refine qD rfl (fun hg=>by exfalso;unfold relK at hg;omega) (fun hg=>?_)
   refine qF (qQ (kL rfl (.q 0 (.q 1 (.q 2 (.q 3 (.q 4 ((.l 5 [] (.done)))))))) Kr ?_))
   refine qK rfl rfl rfl rfl (qX rfl rfl rfl rfl (qG (k:=0) rfl rfl rfl rfl υ'111 rfl ζ'107 rfl ?_))
   refine qP (j:=0) rfl rfl rfl rfl α'107 Tk Az (by rfl) ?_
   refine kG rfl rfl rfl rfl α'47 ζ'47 Tk 0 (us:=[_,_,_]) Az rfl rfl ?_
   have sp_46:=Fe.rnext_spec pa pc cb x.ck hx.ck Om pl (hpl) k ((t:Nat):Int) ((o:Nat):Int)
   refine qM rfl rfl rfl rfl rfl rfl κ'85 (sp_46) Ts ?_
   rintro ⟨⟩ -
   try simp only [Ca,Na]
   refine qV (qR (qW [] (e':=[]) rfl ?_))
   refine sH ?_
   have hF:(vnF x k ((t:Nat):Int) ((o:Nat):Int))=⟨nxF x.ck k ((t:Nat):Int) ((o:Nat):Int),(upd x.th ((t:Nat):Int) (some (jn l p.1))),x.lk,x.vo,(upd x.rd (((o:Nat):Int),(stF x.ck ((t:Nat):Int)).2.2) (if p.2 - 1≤0 then none else some (p.1,p.2 - 1)))⟩:=(by rw [vn10 hth k10];simp only [dpF,thF_eq hth,hrf])
   rw [show mgF (some yq.2.2) l=jn l p.1 from by rw [hypt];rfl]
   refine optR_someF (b:=tb) (t:=(jn l p.1)) Td ?_
   refine cD (res:=optR) (V:=VT) (Y:=tabF x.ck.th.toNat x.th) (S:=[]) t (some ⟨tb,0,none⟩) (some (jn l p.1)) Ts (by simp) (by first | omega | (simp;omega)) (by rw [tab_len];omega) ?_
   rw [set_sameL hta,tab_set]
   refine rv_fold (b:=b) (vnF x k ((t:Nat):Int) ((o:Nat):Int)) (pa:=pa) (pc:=pc) (cb:=cb) (Ta:=Ta) (Tc:=Tc) (La:=La) (Lc:=Lc) (Oa:=Oa) (Oc:=Oc) (Ra:=Ra) (Rc:=Rc) (VT:=VT) (VL:=VL) (VO:=VO) (VR:=VR) (YR:=YR) Ts (by first | rfl | simp) (by first | rfl | simp) (by first | rfl | simp) (by first | rfl | simp) (by rw [hF]) (by rw [hF,hrest.2.1]) (by rw [hF,hrest.2.2.2.2]) (by rw [hF,hrest.2.2.2.1]) (by rw [hF,hrest.2.1];simpa using hVT) (by rw [hF,hrest.2.2.2.2];simpa using hVL) (by rw [hF,hrest.2.2.2.1];simpa using hVO) (by simpa using hVR) (by rw [hF];exact relK_keep (relK_dep hK hrd hrlt _ (fun s hs=>by split at hs <;> cases hs;rfl)) hx.ck hc Om) ?_
   refine ret0 rfl (()) (by first | rfl | (first | rfl | (congr 1;done) | (congr 1 <;> first | rfl | omega | (simp;done) | (simp;omega)))) (by trivial) ?_
   exact Tf
  refine sD rfl rfl rfl ω'166 (zs:=[.int .i64 0,.int .i64 0,.int .i64 0]) rfl ?_
  intro b8
  refine qH (q:=0) rfl rfl rfl α'107 Tk Az (by rfl) ?_
  refine qH (q:=1) rfl rfl rfl α'3 Tk Az (by rfl) ?_
  refine qV ?_
  have sp_47:=Fe.rstand_spec pa pc cb x.ck hx.ck ((t:Nat):Int)
  refine qM rfl rfl rfl rfl rfl rfl Tryz.call83 (sp_47) Ts ?_
  rintro ⟨⟩ -
  try simp only [Ca,Na]
  refine qV (qK rfl rfl rfl rfl (kY rfl rfl rfl rfl rfl (kY rfl rfl rfl rfl rfl (kH (j:=0) rfl rfl rfl rfl ζ'166 (us:=[_,_,_]) rfl rfl rfl Tk Az (by first | decide | (simp;done) | omega) ?_))))
  simp only [setL,List.set]
  refine qV (qS rfl rfl rfl rfl (qR (qW [0,3,4,8] (e':=[(0,_),(3,_),(4,_),(8,_)]) rfl ?_)))
  refine qQ (s_krk (V:=VR) (Y:=YR) Tk fun hkr=>?_)
  have hrl:=hK.Rl
  have hex:∃ (j:Nat) (q:KP),VR[j]?=some q∧q.1=((o:Nat):Int)∧q.2.1=(stF x.ck ((t:Nat):Int)).2.2:=by
    obtain ⟨g,hg⟩:=hK.Re _ _ p hrd
    obtain ⟨j,hj⟩:=List.getElem?_of_mem hg
    have hjl:=(List.getElem?_eq_some_iff.1 hj).1
    obtain ⟨v,hv9⟩:=cR (l:=VR) (i:=j) Om
    obtain ⟨e1,e2⟩:=hkr j v _ hv9 hj
    exact ⟨j,v,hv9,e1,e2⟩
  refine kL rfl (.q 0 (.q 1 (.q 2 (.q 3 (.q 4 (.q 5 (.q 6 (.q 7 (.q 8 (.q 9 ((.l 10 [4] (.q 11 (.q 12 (.q 13 ((.l 14 [] (.done)))))))))))))))))) Kr ?_
  refine qK rfl rfl rfl rfl (qK rfl rfl rfl rfl (qX rfl rfl rfl rfl (qG (k:=4) rfl rfl rfl rfl υ'111 rfl ζ'109 rfl ?_)))
  refine qP (j:=4) rfl rfl rfl rfl α'109 Tk Az (by rfl) ?_
  refine qK rfl rfl rfl rfl (qG (k:=2) rfl rfl rfl rfl υ'47 rfl ζ'3 rfl ?_)
  refine qP (j:=2) rfl rfl rfl rfl α'3 Tk Az (by rfl) ?_
  refine qG (k:=2) rfl rfl rfl rfl υ'166 rfl ζ'3 rfl ?_
  refine qP (j:=2) rfl rfl rfl rfl α'3 Tk Az (by rfl) ?_
  have sp_48:=round_yes b VR.length Rc (.pointer (some ⟨cb,0,none⟩)) (.slice Ta VT.length Tc) (.slice La VL.length Lc) (.slice Oa VO.length Oc) Ra VR ((o:Nat):Int) ((stF x.ck ((t:Nat):Int)).2.2) Ln Om hex
  refine qM rfl rfl rfl rfl rfl rfl κ'84 (sp_48) Ts ?_
  rintro ri ⟨rq,hrq,hrq1,hrq2⟩
  have hril:=(List.getElem?_eq_some_iff.1 hrq).1
  try simp only [Ca,Na]
  refine qH (q:=4) rfl rfl rfl α'109 Tk Az (by rfl) ?_
  refine qV ?_
  obtain ⟨yq,hyq⟩:=cR (l:=YR) (i:=ri) Om
  obtain ⟨e1,e2⟩:=hkr ri rq yq hrq hyq
  obtain ⟨hyc,-,hyr⟩:=hK.Rk yq (List.mem_of_getElem? hyq)
  have hypt:yq.2.2=p.1:=hyr p (by rw [← e1,← e2,hrq1,hrq2];exact hrd)
  refine cZ (res:=krA) (V:=VR) (Y:=YR) (S:=[]) ri Tk (by simp) hyq fun v hvr=>?_
  refine s_kr Tk fun rb hrb=>?_
  have hvq:rq=(yq.1,yq.2.1,some ⟨rb,0,none⟩):=by rw [hrq] at hvr;cases hvr;exact hrb
  rw [hvq] at hrq
  rw [hrb] at hvr
  refine kF (sz:=2) (k:=ri) (enc:=encK) (xs:=VR) rfl rfl rfl rfl rfl υ'109 ζ'170 hrq (by first | rfl | omega) Om Tk ?_
  intro ib145 io145 ha145 hl145 hc145
  refine qG (k:=2) rfl rfl rfl rfl υ'170 rfl ζ'102 rfl ?_
  refine kS (v:=(.pointer (some ⟨rb,0,none⟩))) (j:=2) (k':=ri) (enc:=encK) (off:=io145) rfl rfl rfl rfl α'102 ha145 encK_len hrq Tk (by first | rfl | exact (Ad _).symm | omega) (by rfl) ?_
  refine optR_someF (b:=rb) (t:=yq.2.2) Td ?_
  have sp_49:=joined_spec tb l (some ⟨rb,0,none⟩:Option Addr) (some yq.2.2)
  refine qM rfl rfl rfl rfl rfl rfl κ'80 (sp_49) Ts ?_
  rintro ⟨⟩ -
  try simp only [Ca,Na]
  refine qV (optR_some (a:=(some ⟨rb,0,none⟩)) (t:=yq.2.2) Td fun rb_ hrb_=>?_)
  cases hrb_
  refine s_krF rb yq Td ?_
  refine cY (res:=krA) (V:=VR) (Y:=YR) (S:=[]) ri Ts (by simp) hrq hyq ?_
  refine qR (qW [0,3,4] (e':=[(0,_),(3,_),(4,_)]) rfl ?_)
  refine kX (qQ (qL (qL (qC (.q 0 (.q 1 ((.l 2 [] (.done))))) Kr ?_))))
  refine qG (k:=0) rfl rfl rfl rfl υ'47 rfl ζ'45 rfl ?_
  refine qP (j:=0) rfl rfl rfl rfl α'45 Tk Az (by rfl) ?_
  have sp_50:=Rv.more_spec k
  refine qM rfl rfl rfl rfl rfl rfl κ'76 (sp_50) Ts ?_
  rintro ⟨⟩ -
  try simp only [Ca,Na]
  refine qV (qR (qQ ?_))
  refine qD rfl (fun hg=>by exfalso;unfold relK at hg;omega) (fun hg=>?_)
  refine qF (qQ (kL rfl (.q 0 (.q 1 (.q 2 (.q 3 (.q 4 ((.l 5 [] (.done)))))))) Kr ?_))
  refine qK rfl rfl rfl rfl (qX rfl rfl rfl rfl (qG (k:=0) rfl rfl rfl rfl υ'111 rfl ζ'107 rfl ?_))
  refine qP (j:=0) rfl rfl rfl rfl α'107 Tk Az (by rfl) ?_
  refine kG rfl rfl rfl rfl α'47 ζ'47 Tk 0 (us:=[_,_,_]) Az rfl rfl ?_
  have sp_51:=Fe.rnext_spec pa pc cb x.ck hx.ck Om pl (hpl) k ((t:Nat):Int) ((o:Nat):Int)
  refine qM rfl rfl rfl rfl rfl rfl κ'85 (sp_51) Ts ?_
  rintro ⟨⟩ -
  try simp only [Ca,Na]
  refine qV (qR (qW [] (e':=[]) rfl ?_))
  refine sH ?_
  have hF:(vnF x k ((t:Nat):Int) ((o:Nat):Int))=⟨nxF x.ck k ((t:Nat):Int) ((o:Nat):Int),(upd x.th ((t:Nat):Int) (some (jn l p.1))),x.lk,x.vo,(upd x.rd (((o:Nat):Int),(stF x.ck ((t:Nat):Int)).2.2) (if p.2 - 1≤0 then none else some (p.1,p.2 - 1)))⟩:=(by rw [vn10 hth k10];simp only [dpF,thF_eq hth,hrf])
  rw [show mgF (some yq.2.2) l=jn l p.1 from by rw [hypt];rfl]
  refine optR_someF (b:=tb) (t:=(jn l p.1)) Td ?_
  refine cD (res:=optR) (V:=VT) (Y:=tabF x.ck.th.toNat x.th) (S:=[]) t (some ⟨tb,0,none⟩) (some (jn l p.1)) Ts (by simp) (by first | omega | (simp;omega)) (by rw [tab_len];omega) ?_
  rw [set_sameL hta,tab_set]
  refine rv_fold (b:=b) (vnF x k ((t:Nat):Int) ((o:Nat):Int)) (pa:=pa) (pc:=pc) (cb:=cb) (Ta:=Ta) (Tc:=Tc) (La:=La) (Lc:=Lc) (Oa:=Oa) (Oc:=Oc) (Ra:=Ra) (Rc:=Rc) (VT:=VT) (VL:=VL) (VO:=VO) (VR:=VR) (YR:=YR) Ts (by first | rfl | simp) (by first | rfl | simp) (by first | rfl | simp) (by first | rfl | simp) (by rw [hF]) (by rw [hF,hrest.2.1]) (by rw [hF,hrest.2.2.2.2]) (by rw [hF,hrest.2.2.2.1]) (by rw [hF,hrest.2.1];simpa using hVT) (by rw [hF,hrest.2.2.2.2];simpa using hVL) (by rw [hF,hrest.2.2.2.1];simpa using hVO) (by simpa using hVR) (by rw [hF];exact relK_keep (relK_dep hK hrd hrlt _ (fun s hs=>by split at hs <;> cases hs;rfl)) hx.ck hc Om) ?_
  refine ret0 rfl (()) (by first | rfl | (first | rfl | (congr 1;done) | (congr 1 <;> first | rfl | omega | (simp;done) | (simp;omega)))) (by trivial) ?_
  exact Tf
 refine qF (kX (qQ (qL (qL (qC (.q 0 (.q 1 ((.l 2 [] (.done))))) Kr ?_)))))
 refine qG (k:=0) rfl rfl rfl rfl υ'47 rfl ζ'45 rfl ?_
 refine qP (j:=0) rfl rfl rfl rfl α'45 Tk Az (by rfl) ?_
 have sp_52:=Rv.more_spec k
 refine qM rfl rfl rfl rfl rfl rfl κ'76 (sp_52) Ts ?_
 rintro ⟨⟩ -
 try simp only [Ca,Na]
 refine qV (qR (qQ ?_))
 refine qD rfl (fun hg=>by exfalso;unfold relK at hg;omega) (fun hg=>?_)
 refine qF (qQ (kL rfl (.q 0 (.q 1 (.q 2 (.q 3 (.q 4 ((.l 5 [] (.done)))))))) Kr ?_))
 refine qK rfl rfl rfl rfl (qX rfl rfl rfl rfl (qG (k:=0) rfl rfl rfl rfl υ'111 rfl ζ'107 rfl ?_))
 refine qP (j:=0) rfl rfl rfl rfl α'107 Tk Az (by rfl) ?_
 refine kG rfl rfl rfl rfl α'47 ζ'47 Tk 0 (us:=[_,_,_]) Az rfl rfl ?_
 have sp_53:=Fe.rnext_spec pa pc cb x.ck hx.ck Om pl (hpl) k ((t:Nat):Int) ((o:Nat):Int)
 refine qM rfl rfl rfl rfl rfl rfl κ'85 (sp_53) Ts ?_
 rintro ⟨⟩ -
 try simp only [Ca,Na]
 refine qV (qR (qW [] (e':=[]) rfl ?_))
 refine sH ?_
 have hF:(vnF x k ((t:Nat):Int) ((o:Nat):Int))=⟨nxF x.ck k ((t:Nat):Int) ((o:Nat):Int),x.th,x.lk,x.vo,x.rd⟩:=(by rw [vn0 Om Om Om Om Om Om Om Om])
 refine optR_someF (b:=tb) (t:=l) Tk ?_
 refine cY (res:=optR) (V:=VT) (Y:=tabF x.ck.th.toNat x.th) (S:=[]) t Ts (by simp) hta htt ?_
 refine rv_fold (b:=b) (vnF x k ((t:Nat):Int) ((o:Nat):Int)) (pa:=pa) (pc:=pc) (cb:=cb) (Ta:=Ta) (Tc:=Tc) (La:=La) (Lc:=Lc) (Oa:=Oa) (Oc:=Oc) (Ra:=Ra) (Rc:=Rc) (VT:=VT) (VL:=VL) (VO:=VO) (VR:=VR) (YR:=YR) Ts (by first | rfl | simp) (by first | rfl | simp) (by first | rfl | simp) (by first | rfl | simp) (by rw [hF]) (by rw [hF,hrest.2.1]) (by rw [hF,hrest.2.2.2.2]) (by rw [hF,hrest.2.2.2.1]) (by rw [hF,hrest.2.1];simpa using hVT) (by rw [hF,hrest.2.2.2.2];simpa using hVL) (by rw [hF,hrest.2.2.2.1];simpa using hVO) (by simpa using hVR) (by rw [hF];exact relK_keep hK hx.ck hc Om) ?_
 refine ret0 rfl (()) (by first | rfl | (first | rfl | (congr 1;done) | (congr 1 <;> first | rfl | omega | (simp;done) | (simp;omega)))) (by trivial) ?_
 exact Tf
theorem vnext_spec (pa:Option Addr) (pc b:Nat) (x:VS) (hx:VInv x) (hn:x.ck.n≤4000000000000) (pl:List Int) (hpl:x.ck.pa=pl) (k t o:Int) (hv:vcanF x k t o):Spec Tryz.prog 40 [.pointer (some ⟨b,0,none⟩),.agg #[.int .i64 k,.int .i64 t,.int .i64 o]] [rvR pa pc b x,own 1 encZ pa pc pl] (fun (_:Unit)=>.tuple #[]) (fun _=>True) (fun _=>[rvR pa pc b (vnF x k t o),own 1 encZ pa pc pl]):=by
  have hc:=hv.1
  obtain ⟨h1,-⟩:=th_rng hx (can_th hc)
  have h2:0≤o:=by
    rcases hc with ⟨a,-,e,-⟩ | ⟨-,e,-⟩
    · rw [e];exact ((stF_inv hx.ck t).2.2.1 a).1
    · exact e
  obtain ⟨i,rfl⟩:=Int.eq_ofNat_of_zero_le h1
  obtain ⟨j,rfl⟩:=Int.eq_ofNat_of_zero_le h2
  exact vnext_can pa pc b x hx hn pl hpl k i j hv
end Go.Ab.Rv
set_option linter.unusedVariables false
set_option linter.unusedSimpArgs false
set_option maxRecDepth 100000
namespace Go.Ab.Dj
open Go Go.Proofs Go.Ab Go.Ab.Fe Go.Ab.Vc
def vNew (th va vo lk:Int) (pl:List Int):VS:=⟨newF th va vo lk pl,upd noF 0 (some [1]),noF,noF,noF⟩
theorem one_cv:CV [1]:=⟨by simp [Tr],by decide,by decide⟩
theorem new_vinv {th va vo lk:Int} {pl:List Int} (hok:OkS th va vo lk pl) (hc:CInv (newF th va vo lk pl)):VInv (vNew th va vo lk pl):=by
  have h1:=hok.th
  have hst:∀ t,stF (newF th va vo lk pl) t=if t=0 then (1,0,0) else (0,0,0):=fun t=>by
    have h:=(rel_new hok).st t
    rw [← h]
    unfold upd noF
    split <;> rfl
  have hT:∀ b r:Int,wtN (newF th va vo lk pl) b r=0:=fun b r=>by
    unfold wtN
    rw [List.countP_eq_zero]
    intro s hs h2
    have h3:=of_decide_eq_true h2
    obtain ⟨i,hi⟩:=List.getElem?_of_mem hs
    have h4:=hst (i:Int)
    rw [stF,if_neg Om,Int.toNat_natCast,getD_some hi,h3] at h4
    split at h4 <;> simp at h4
  have hB:∀ b:Int,0≤(opF (newF th va vo lk pl) b).2:=fun b=>by
    unfold opF newF
    rcases getD_mem' (List.replicate pl.length ((0:Int),(0:Int))) b.toNat (0,0) with h | h
    · rw [h];decide
    · rw [(List.mem_replicate.1 h).2];decide
  refine ⟨hc,fun t=>?_,fun t l h=>?_,fun t l h=>(by cases h),fun t l h=>(by cases h),fun r p h=>(by cases h),fun r p h=>(by cases h),fun b r=>?_,fun b _ _=>?_⟩
  · show (upd noF 0 (some [1]) t).isSome=true↔(stF (newF th va vo lk pl) t).1≠0
    rw [isS_upd,hst]
    split <;> simp_all [noF]
  · rcases upd_some (show upd noF 0 (some [1]) t=some l from h) with ⟨-,h⟩ | ⟨-,h⟩
    · cases h;exact one_cv
    · cases h
  · show ((wtN (newF th va vo lk pl) b r:Nat):Int)≤_
    rw [hT];exact Int.le_refl _
  · show ((wtN (newF th va vo lk pl) b _:Nat):Int)≤(opF (newF th va vo lk pl) b).2
    rw [hT];exact hB b
/-- What is kept of a variable: its reads, its writes, its flag. -/
abbrev P4:=Option Addr × Option Addr × Int × Bool
abbrev V4:=List Int × List Int × Int × Bool
def encV (x:P4):List Value:=[.pointer x.1,.pointer x.2.1,.int .i64 x.2.2.1,.bool x.2.2.2]
theorem encV_len:∀ x,(encV x).length=4:=fun _=>rfl
theorem encV_one:∀ x,(encV x).all Value.oneCell'=true:=fun _=>rfl
def varA (v:P4) (t:V4):HProp:=fun h=>v.2.2=t.2.2∧Sat [vecA v.1 t.1,vecA v.2.1 t.2.1] h
structure DS where
  v:VS
  vs:List V4
  cost:Int
structure V4Inv (T:Int) (w:V4):Prop where
  r:CV w.1
  w:CV w.2.1
structure DInv (x:DS):Prop where
  v:VInv x.v
  len:(x.vs.length:Int)=x.v.ck.va
  vs:∀ w∈x.vs,CV w.1∧CV w.2.1
  c0:0≤x.cost∧x.cost≤2*x.v.ck.n
def dR (pa:Option Addr) (pc:Nat) (po:Option Addr) (poc b:Nat) (x:DS):HProp:=fun h=>∃ vb va vc V,V.length=x.vs.length∧Sat [cells b 0 [.pointer (some ⟨vb,0,none⟩),.slice va x.vs.length vc,.int .i64 x.cost],vsR pa pc po poc vb x.v,own 4 encV va vc V,restL varA V x.vs []] h
section
variable {w0:World} {ds:List Deferred} {n:Nat} {e:Env} {Γ Γ':List HProp} {X:Act→World→Prop}
theorem d_open {pa:Option Addr} {pc:Nat} {po:Option Addr} {poc b:Nat} {x:DS} (k:∀ vb va vc V,V.length=x.vs.length→Le (St w0 ds n e (cells b 0 [.pointer (some ⟨vb,0,none⟩),.slice va x.vs.length vc,.int .i64 x.cost]::vsR pa pc po poc vb x.v::own 4 encV va vc V::restL varA V x.vs []::Γ)) X):Le (St w0 ds n e (dR pa pc po poc b x::Γ)) X:=fun a w s=>by
  obtain ⟨h1,l1,⟨vb,va,vc,V,hV,a1⟩,s1⟩:=s.heap
  exact k vb va vc V hV a w ⟨s.defers,s.size,s.env,Bun.unfold ⟨h1,l1,a1,s1⟩,s.amb⟩
theorem d_fold {b:Nat} (x:DS) {pa:Option Addr} {pc:Nat} {po:Option Addr} {poc vb m vc:Nat} {va:Option Addr} {V:List P4} {y:VS} {Y:List V4} {c:Int}
    (tk:Takes Γ [cells b 0 [.pointer (some ⟨vb,0,none⟩),.slice va m vc,.int .i64 c],vsR pa pc po poc vb y,own 4 encV va vc V,restL varA V Y []] Γ') (hx:x=⟨y,Y,c⟩) (h1:m=Y.length) (h2:V.length=Y.length)
    (k:Le (St w0 ds n e (dR pa pc po poc b x::Γ')) X):Le (St w0 ds n e Γ) X:=cQ (fun h s=>by
  subst h1 hx
  obtain ⟨h1,l1,a1,s1⟩:=Bun.fold (tk h s)
  exact ⟨h1,l1,⟨vb,va,vc,V,h2,a1⟩,s1⟩) k
theorem s_var {v:P4} {t:V4} (tk:Take Γ (varA v t) Γ') (k:v.2.2=t.2.2→Le (St w0 ds n e (vecA v.1 t.1::vecA v.2.1 t.2.1::Γ')) X):Le (St w0 ds n e Γ) X:=fun x w s=>by
  obtain ⟨h1,l1,⟨a1,a2⟩,s1⟩:=tk _ s.heap
  exact k a1 x w ⟨s.defers,s.size,s.env,Bun.unfold ⟨h1,l1,a2,s1⟩,s.amb⟩
theorem s_varF (v:P4) (t:V4) (tk:Takes Γ [vecA v.1 t.1,vecA v.2.1 t.2.1] Γ') (hv:v.2.2=t.2.2) (k:Le (St w0 ds n e (varA v t::Γ')) X):Le (St w0 ds n e Γ) X:=cQ (fun h s=>by
  obtain ⟨h1,l1,a1,s1⟩:=Bun.fold (tk h s)
  exact ⟨h1,l1,⟨hv,a1⟩,s1⟩) k
end
def v0:V4:=([],[],0,false)
def dNew (th va vo lk:Int) (pl:List Int):DS:=⟨vNew th va vo lk pl,List.replicate va.toNat v0,0⟩
theorem new_dinv {th va vo lk:Int} {pl:List Int} (hok:OkS th va vo lk pl) (hc:CInv (newF th va vo lk pl)):DInv (dNew th va vo lk pl) :=
  ⟨new_vinv hok hc,by have:=hok.va;simp [dNew,vNew,newF];omega,fun w hw=>by rw [(List.mem_replicate.1 hw).2];exact ⟨Vc.nil_cv,Vc.nil_cv⟩,by simp [dNew,vNew,newF]⟩
theorem begin_spec (th va vo lk:Int) (pl:List Int) (ao:Option Addr) (n c:Nat) (A:HProp) (hr:RdS A ao (pl.flatMap encZ)) (hn:pl.length=n) (hb:n≤4000000) (hok:OkS th va vo lk pl):Spec Tryz.prog 23 [.agg #[.int .i64 th,.int .i64 va,.int .i64 vo,.int .i64 lk,.slice ao n c]] [A] (fun (r:(Nat × Nat × Option Addr × Nat) × Option Addr × Nat)=>.tuple #[.pointer (some ⟨r.1.1,0,none⟩),.int .i64 0]) (fun r=>True) (fun r=>[A,own 1 encZ r.1.2.2.1 r.1.2.2.2 pl,own 1 encZ r.2.1 r.2.2 pl,vsR r.1.2.2.1 r.1.2.2.2 r.2.1 r.2.2 r.1.1 (vNew th va vo lk pl)]):=by
 refine kQ (n:=33) Tryz.func23 rfl rfl rfl ?_
 intro Γ w0
 simp only [argE,Ca,Na,Zd,Nat.reduceAdd]
 refine qL (qC ((.l 0 [] (.q 1 (.q 2 (.done))))) Kr ?_)
 refine sP rfl rfl rfl rfl (us:=[_,_,_,_,_]) rfl ?_
 intro b1
 refine qV (qS rfl rfl rfl rfl (qS rfl rfl rfl rfl (qR (qQ (qL (qC (.q 0 ((.l 1 [] (.q 2 (.q 3 (.q 4 (.q 5 (.q 6 (.done))))))))) Kr ?_))))))
 refine kG rfl rfl rfl rfl α'24 ζ'24 Tk 0 (us:=[_,_,_,_,_]) Az rfl rfl ?_
 have sp_1:=Fe.new_spec th va vo lk pl ao n c A (hr) Ln Om hok
 refine qM rfl rfl rfl rfl rfl rfl Tryz.call58 (sp_1) Ts ?_
 rintro ⟨nb,nbp,nbc⟩ -
 try simp only [Ca,Na]
 refine qV (qK rfl rfl rfl rfl (kY rfl rfl rfl rfl rfl (kY rfl rfl rfl rfl rfl (qS rfl rfl rfl rfl (qS rfl rfl rfl rfl (qR (qW [1,4,5] (e':=[(1,_),(4,_),(5,_)]) rfl ?_)))))))
 refine qQ (qL (qL (qC (.q 0 (.q 1 (.done))) Kr ?_)))
 refine qK rfl rfl rfl rfl (qB rfl rfl rfl rfl rfl (b_neq _ _ _ _) ?_)
 refine kB 14 rfl (v':=.bool false) (by first | rfl | simp) ?_
 refine qR (qQ (kZ rfl ?_))
 refine qF (qQ (qL (qC ((.l 0 [] ((.l 1 [] (.q 2 (.q 3 (.q 4 (.q 5 (.q 6 (.done)))))))))) Kr ?_)))
 refine cL rfl rfl rfl rfl (sQ (us:=[_]) υ'65 ζ'67 rfl ω'67 rfl rfl rfl) ?_
 intro b17
 refine qV ?_
 have sp_2:=Vc.of_spec ([1]) (some ⟨b17,0,none⟩) 1 1 (cells b17 0 [.int .u64 1]) Ln (sX sS) Om (by decide)
 refine qM rfl rfl rfl rfl rfl rfl Tryz.call59 (sp_2) Ts ?_
 rintro ⟨qb,qa,qc⟩ -
 try simp only [Ca,Na]
 refine qV (qK rfl rfl rfl rfl (kY rfl rfl rfl rfl rfl (kY rfl rfl rfl rfl rfl (qS rfl rfl rfl rfl (qS rfl rfl rfl rfl (qR ?_))))))
 rw [show tr [1]=[1] from by decide]
 refine qW [1,4,6] (e':=[(1,_),(4,_),(6,_)]) rfl ?_
 refine qQ (qL (qC (.q 0 (.q 1 (.q 2 ((.l 3 [] ((.l 4 [] (.q 5 ((.l 6 [] (.q 7 ((.l 8 [] ((.l 9 [] ((.l 10 [] (.q 11 ((.l 12 [] (.q 13 (.q 14 (.done))))))))))))))))))))))) Kr ?_))
 refine qK rfl rfl rfl rfl (qG (k:=4) rfl rfl rfl rfl υ'24 rfl ζ'22 rfl ?_)
 refine qP (j:=4) rfl rfl rfl rfl α'22 Tk Az (by rfl) ?_
 refine cQ (fun _ h=>sR (sz:=1) (enc:=encZ) h) ?_
 refine sG (sz:=1) (enc:=encZ) (xs:=[]) rfl rfl rfl rfl rfl υ'22 τ'3 rfl rfl rfl (by decide) Tk Tk (by first | rfl | omega | (simp;done) | (simp;omega)) (ys:=pl) (hr) (by rfl) (by first | rfl | omega) (encZ_len) (encZ_one) Om (by show _*8≤_;omega) ?_
 intro ao24 cp24
 try simp only [Na]
 refine qV (rK Int (Option Addr) ekZ evA rfl rfl rfl ?_)
 intro m1
 refine qV (qK rfl rfl rfl rfl (sM (ek:=ekZ) (ev1:=evA) (F:=(noF:Int→Option (Option Addr))) (m:=m1) (k:=0) (v:=(some ⟨qb,0,none⟩:Option Addr)) (by first | exact .inl rfl | exact .inr rfl) rfl rfl rfl rfl υ'84 (cM υ'3) Tk ?_))
 refine qV (qK rfl rfl rfl rfl (rK Int (Option Addr) ekZ evA rfl rfl rfl ?_))
 intro m2
 refine qV (rK Int (Option Addr) ekZ evA rfl rfl rfl ?_)
 intro m3
 refine qV (rK (Int × Int) (Option Addr × Int) ek2 evH rfl rfl rfl ?_)
 intro m4
 refine qV (cC rfl rfl rfl rfl (vs:=[_,_,_,_,_,_]) (kV υ'87 Tryz.zeroValue87 (ps:=[(0,1),(1,1),(2,1),(3,1),(4,1),(5,1)]) ⟨rfl,ζ'83,rfl,ζ'22,rfl,ζ'84,rfl,ζ'84,rfl,ζ'84,rfl,ζ'85,trivial⟩ rfl) ?_)
 refine sP rfl rfl rfl rfl (us:=[_,_,_,_,_,_]) rfl ?_
 intro b32
 refine qV (qS rfl rfl rfl rfl (qS rfl rfl rfl rfl (qR (qW [2,3] (e':=[(2,_),(3,_)]) rfl ?_))))
 refine qQ (qJ (s_vecF qb qa qc [1] Ts ?_))
 refine s_rest_new (res:=vecA) (noF:Int→Option (Option Addr)) (noF:Int→Option (List Int)) (fun _=>rfl) (fun _=>rfl) ?_
 refine s_rest_opt (F:=(noF:Int→Option (Option Addr))) (T:=(noF:Int→Option (List Int))) (S:=[]) (0:Int) Tk (by simp) fun _=>?_
 refine cN (F:=(noF:Int→Option (Option Addr))) (T:=(noF:Int→Option (List Int))) (S:=[]) (0:Int) (upd noF 0 (some (some ⟨qb,0,none⟩))) (upd noF 0 (some [1])) Ts (by simp) sL (fun q h _=>sF h) sL (fun q h _=>sF h) ?_
 refine s_rest_new (res:=vecA) (noF:Int→Option (Option Addr)) (noF:Int→Option (List Int)) (fun _=>rfl) (fun _=>rfl) ?_
 refine s_rest_new (res:=vecA) (noF:Int→Option (Option Addr)) (noF:Int→Option (List Int)) (fun _=>rfl) (fun _=>rfl) ?_
 refine s_rest_new (res:=heldA) (noF:Int × Int→Option (Option Addr × Int)) (noF:Int × Int→Option (List Int × Int)) (fun _=>rfl) (fun _=>rfl) ?_
 refine vs_fold (b:=b32) (vNew th va vo lk pl) (pa:=nbp) (pc:=nbc) (po:=ao24) (poc:=cp24) (cb:=nb) (m1:=m1) (m2:=m2) (m3:=m3) (m4:=m4) Ts (by rfl) (by show 0+n=pl.length;omega) ?_
 refine ret2 rfl rfl rfl (((b32,nb,nbp,nbc),ao24,cp24)) (by first | rfl | (first | rfl | (congr 1;done) | (congr 1 <;> first | rfl | omega | (simp;done) | (simp;omega)))) (by trivial) ?_
 exact Tf
theorem beginbad_spec (th va vo lk:Int) (pl:List Int) (ao:Option Addr) (n c:Nat) (A:HProp) (hr:RdS A ao (pl.flatMap encZ)) (hn:pl.length=n) (hb:n≤4000000) (hok:¬ OkS th va vo lk pl):Spec Tryz.prog 23 [.agg #[.int .i64 th,.int .i64 va,.int .i64 vo,.int .i64 lk,.slice ao n c]] [A] (fun (_:Unit)=>.tuple #[.pointer none,.int .i64 5]) (fun _=>True) (fun _=>[A]):=by
 refine kQ (n:=33) Tryz.func23 rfl rfl rfl ?_
 intro Γ w0
 simp only [argE,Ca,Na,Zd,Nat.reduceAdd]
 refine qL (qC ((.l 0 [] (.q 1 (.q 2 (.done))))) Kr ?_)
 refine sP rfl rfl rfl rfl (us:=[_,_,_,_,_]) rfl ?_
 intro b1
 refine qV (qS rfl rfl rfl rfl (qS rfl rfl rfl rfl (qR (qQ (qL (qC (.q 0 ((.l 1 [] (.q 2 (.q 3 (.q 4 (.q 5 (.q 6 (.done))))))))) Kr ?_))))))
 refine kG rfl rfl rfl rfl α'24 ζ'24 Tk 0 (us:=[_,_,_,_,_]) Az rfl rfl ?_
 have sp_2:=Fe.newbad_spec th va vo lk pl ao n c A (hr) Ln Om hok
 refine qM rfl rfl rfl rfl rfl rfl Tryz.call58 (sp_2) Ts ?_
 rintro ⟨⟩ -
 try simp only [Ca,Na]
 refine qV (qK rfl rfl rfl rfl (kY rfl rfl rfl rfl rfl (kY rfl rfl rfl rfl rfl (qS rfl rfl rfl rfl (qS rfl rfl rfl rfl (qR (qW [1,4,5] (e':=[(1,_),(4,_),(5,_)]) rfl ?_)))))))
 refine qQ (qL (qL (qC (.q 0 (.q 1 (.done))) Kr ?_)))
 refine qK rfl rfl rfl rfl (qB rfl rfl rfl rfl rfl (b_neq _ _ _ _) ?_)
 refine kB 14 rfl (v':=.bool true) (by first | rfl | simp) ?_
 refine qR (qQ (cK rfl ?_))
 refine qL (qC (.q 0 (.q 1 (.q 2 (.done)))) Kr ?_)
 refine qK rfl rfl rfl rfl (qS rfl rfl rfl rfl (qS rfl rfl rfl rfl (qR (qW [2,3] (e':=[(2,_),(3,_)]) rfl ?_))))
 refine qQ (qJ (qN (ret2 rfl rfl rfl (()) (by first | rfl | (first | rfl | (congr 1;done) | (congr 1 <;> first | rfl | omega | (simp;done) | (simp;omega)))) (by trivial) ?_)))
 exact Tf
end Go.Ab.Dj
set_option linter.unusedVariables false
set_option linter.unusedSimpArgs false
set_option maxRecDepth 100000
namespace Go.Ab.Rv
open Go Go.Proofs Go.Ab Go.Ab.Fe Go.Ab.Vc Go.Ab.Dj
theorem take_snoc {α:Type} {l:List α} {i:Nat} {a:α} (h:l[i]?=some a):l.take (i+1)=l.take i++[a]:=by rw [List.take_add_one,h];rfl
theorem tab_rep (n:Nat):tabF n noF=List.replicate n none:=by
  apply List.ext_getElem?
  intro q
  rcases Nat.lt_or_ge q n with h | h
  · rw [tab_get h,List.getElem?_replicate,if_pos h];rfl
  · rw [List.getElem?_eq_none (by rw [tab_len];exact h),List.getElem?_eq_none (by simpa using h)]
theorem s_optNF {w0:World} {ds:List Deferred} {n:Nat} {e:Env} {Γ:List HProp} {X:Act→World→Prop} (k:Le (St w0 ds n e (optR none none::Γ)) X):Le (St w0 ds n e Γ) X:=cQ (fun h s=>sat_free (A:=optR none none) rfl s) k
theorem s_restL_rep {w0:World} {ds:List Deferred} {n:Nat} {e:Env} {Γ:List HProp} {X:Act→World→Prop}:∀ (m:Nat),Le (St w0 ds n e (restL optR (List.replicate m none) (List.replicate m none) []::Γ)) X→Le (St w0 ds n e Γ) X
  | 0,k=>s_restL_nil k
  | m+1,k=>s_restL_rep m (s_optNF (s_restL_push (V:=List.replicate m (none:Option Addr)) (Y:=List.replicate m (none:Option (List Int))) none none (Takes.cons Take.here (Takes.cons Take.here Takes.nil)) (by simp) (by
      rw [← List.replicate_succ',← List.replicate_succ'];exact k)))
theorem copyn:Spec Tryz.prog 44 [.pointer none] [] (fun (_:Unit)=>.pointer none) (fun _=>True) (fun _=>[]):=by
 refine kQ (n:=13) Tryz.func44 rfl rfl rfl ?_
 intro Γ w0
 simp only [argE,Ca,Na,Zd,Nat.reduceAdd]
 refine qL (qC (.q 0 (.done)) Kr ?_)
 refine qS rfl rfl rfl rfl (qR (qQ (qL (qL (qC (.q 0 (.q 1 (.done))) Kr ?_)))))
 refine qK rfl rfl rfl rfl (cG rfl rfl rfl rfl υ'102 ?_)
 refine kB 4 rfl (v':=.bool true) rfl ?_
 refine qR (qQ (cK rfl ?_))
 refine qL (qC (.q 0 (.done)) Kr ?_)
 refine qS rfl rfl rfl rfl (qR (qQ (qJ (qN (kD rfl rfl (()) (by first | rfl | (first | rfl | (congr 1;done) | (congr 1 <;> first | rfl | omega | (simp;done) | (simp;omega)))) (by trivial) ?_)))))
 exact Tf
theorem copies_spec (V:List (Option Addr)) (Y:List (Option (List Int))) (ao:Option Addr) (n c:Nat) (hn:V.length=n) (hVY:Y.length=n) (hb:n≤4000000000000):Spec Tryz.prog 90 [.slice ao n c] [own 1 encA ao c V,restL optR V Y []] (fun (r:List (Option Addr) × Option Addr × Nat)=>.slice r.2.1 n r.2.2) (fun r=>r.1.length=n) (fun r=>[own 1 encA ao c V,restL optR V Y [],own 1 encA r.2.1 r.2.2 r.1,restL optR r.1 Y []]):=by
 refine kQ (n:=20) Tryz.func90 rfl rfl rfl ?_
 intro Γ w0
 simp only [argE,Ca,Na,Zd,Nat.reduceAdd]
 refine qL (qC (.q 0 (.done)) Kr ?_)
 refine qS rfl rfl rfl rfl (qR (qQ (qL (qC (.q 0 (.done)) Kr ?_))))
 refine qS rfl rfl rfl rfl (qR (qQ (qL (qL (qC (.q 0 (.done)) Kr ?_)))))
 refine qS rfl rfl rfl rfl (qR (qQ (kC (cQ (fun _ h=>sR (sz:=1) (enc:=encA) h) ?_))))
 refine s_restL_nil (res:=optR) ?_
 refine cH (α:=Nat × List (Option Addr) × Option Addr × Nat) (fun (x_:Nat × List (Option Addr) × Option Addr × Nat)=>match x_ with | (k,GV,ga,gc)=>k≤n∧(GV.length=k)) (fun (x_:Nat × List (Option Addr) × Option Addr × Nat)=>match x_ with | (k,GV,ga,gc)=>[(3,.slice ga k gc),(4,.int .i64 ((k:Nat):Int))]) (fun (x_:Nat × List (Option Addr) × Option Addr × Nat)=>match x_ with | (k,GV,ga,gc)=>[restL optR V Y [],restL optR GV (Y.take k) [],own 1 encA ga gc GV]) (fun (x_:Nat × List (Option Addr) × Option Addr × Nat)=>match x_ with | (k,GV,ga,gc)=>n - k) [0] (er:=[(0,_)]) rfl (0,[],none,0) ?_ (by exact ⟨rfl,rfl,trivial⟩) (by (try dsimp only);(try simp only [Ad,Zd]);(repeat ((with_reducible apply Z2);focus (first | (with_reducible (repeat (first | exact Z0 | apply Z1));done) | (repeat (first | exact Z0 | apply Z1)))));exact Z3) ?_
 · exact ⟨Nat.zero_le _,rfl⟩
 rintro ⟨k,GV,ga,gc⟩ ⟨hle_k,hGV⟩
 try simp only [Ca,Na]
 refine qL (qL (qC (.q 0 (.q 1 (.q 2 (.q 3 (.done))))) Kr ?_))
 refine qK rfl rfl rfl rfl (qK rfl rfl rfl rfl (cJ rfl rfl rfl rfl υ'108 ?_))
 refine qB rfl rfl rfl rfl rfl (cB _ _ _ _) ?_
 refine qR (qQ ?_)
 refine qD rfl (fun hlt=>?_) (fun hlt=>?_)
 ·
  refine qF (qQ (qL (kC (qC (.q 0 (.q 1 (.q 2 (.q 3 (.q 4 ((.l 5 [] ((.l 6 [] ((.l 7 [] (.q 8 (.done))))))))))))) Kr ?_))))
  obtain ⟨y,hy⟩:=cR (l:=Y) (i:=k) Om
  refine cZ (res:=optR) (V:=V) (Y:=Y) (S:=[]) k Tk (by simp) hy fun ka hka=>?_
  rcases (show y=none∨∃ t,y=some t by cases y <;> simp) with rfl | ⟨t,rfl⟩
  ·
   refine optR_none (a:=ka) Tk fun hkb=>?_
   subst hkb
   refine qK rfl rfl rfl rfl (qK rfl rfl rfl rfl (qK rfl rfl rfl rfl (kF (sz:=0) (k:=k) (enc:=encA) (xs:=V) rfl rfl rfl rfl rfl υ'108 ζ'102 hka (by first | rfl | omega) Om Tk ?_)))
   intro ib14 io14 ha14 hl14 hc14
   refine kS (v:=(.pointer none)) (j:=0) (k':=k) (enc:=encA) (off:=io14) rfl rfl rfl rfl α'102 ha14 encA_len hka Tk (by first | rfl | exact (Ad _).symm | omega) (by rfl) ?_
   have sp_1:=copyn
   refine qM rfl rfl rfl rfl rfl rfl κ'44 (sp_1) Ts ?_
   rintro ⟨⟩ -
   try simp only [Ca,Na]
   refine qV (cL rfl rfl rfl rfl (sQ (us:=[_]) υ'108 ζ'102 rfl Tryz.zeroValue102 rfl rfl rfl) ?_)
   intro b17
   refine qV (sG (sz:=1) (enc:=encA) (xs:=GV) rfl rfl rfl rfl rfl υ'108 τ'102 rfl rfl rfl (by decide) Tk Tk (by first | rfl | omega | (simp;done) | (simp;omega)) (ys:=[none]) (sX sS) (by rfl) (by first | rfl | omega) (encA_len) (encA_one) Om (by show _*8≤_;omega) ?_)
   intro ao18 cp18
   refine qV (qS rfl rfl rfl rfl (qR (qW [0,3,4] (e':=[(0,_),(3,_),(4,_)]) rfl ?_)))
   refine kX (qQ (qC (.q 0 (.q 1 (.q 2 (.done)))) Kr ?_))
   refine qK rfl rfl rfl rfl (qB rfl rfl rfl rfl rfl (cV _ (by exact kP Om Om)) ?_)
   refine qS rfl rfl rfl rfl (qR (qQ (cY (res:=optR) (V:=V) (Y:=Y) (S:=[]) k Ts (by simp) hka hy ?_)))
   refine s_optNF ?_
   refine s_restL_push (res:=optR) (V:=GV) (Y:=Y.take k) none none Ts (by rw [List.length_take];omega) ?_
   rw [← take_snoc hy]
   refine kJ (x:=(k,GV,ga,gc)) ((k+1,GV++[none],ao18,cp18)) ?_ ?_ ?_ ?_
   · try dsimp only
     exact ⟨by omega,by simp [hGV]⟩
   · show n - (k+1) < n - k;omega
   · exact ⟨rfl,rfl,rfl,trivial⟩
   · (try simp only [Ca,Na]);exact Tf
  refine optR_some (a:=ka) (t:=t) Tk fun kb hkb=>?_
  subst hkb
  refine qK rfl rfl rfl rfl (qK rfl rfl rfl rfl (qK rfl rfl rfl rfl (kF (sz:=0) (k:=k) (enc:=encA) (xs:=V) rfl rfl rfl rfl rfl υ'108 ζ'102 hka (by first | rfl | omega) Om Tk ?_)))
  intro ib14 io14 ha14 hl14 hc14
  refine kS (v:=(.pointer (some ⟨kb,0,none⟩))) (j:=0) (k':=k) (enc:=encA) (off:=io14) rfl rfl rfl rfl α'102 ha14 encA_len hka Tk (by first | rfl | exact (Ad _).symm | omega) (by rfl) ?_
  have sp_2:=Rv.copy_spec kb t
  refine qM rfl rfl rfl rfl rfl rfl κ'44 (sp_2) Ts ?_
  rintro qb -
  try simp only [Ca,Na]
  refine qV (cL rfl rfl rfl rfl (sQ (us:=[_]) υ'108 ζ'102 rfl Tryz.zeroValue102 rfl rfl rfl) ?_)
  intro b17
  refine qV (sG (sz:=1) (enc:=encA) (xs:=GV) rfl rfl rfl rfl rfl υ'108 τ'102 rfl rfl rfl (by decide) Tk Tk (by first | rfl | omega | (simp;done) | (simp;omega)) (ys:=[(some ⟨qb,0,none⟩:Option Addr)]) (sX sS) (by rfl) (by first | rfl | omega) (encA_len) (encA_one) Om (by show _*8≤_;omega) ?_)
  intro ao18 cp18
  refine qV (qS rfl rfl rfl rfl (qR (qW [0,3,4] (e':=[(0,_),(3,_),(4,_)]) rfl ?_)))
  refine kX (qQ (qC (.q 0 (.q 1 (.q 2 (.done)))) Kr ?_))
  refine qK rfl rfl rfl rfl (qB rfl rfl rfl rfl rfl (cV _ (by exact kP Om Om)) ?_)
  refine qS rfl rfl rfl rfl (qR (qQ (optR_someF (b:=kb) (t:=t) Td ?_)))
  refine cY (res:=optR) (V:=V) (Y:=Y) (S:=[]) k Ts (by simp) hka hy ?_
  refine optR_someF (b:=qb) (t:=t) Td ?_
  refine s_restL_push (res:=optR) (V:=GV) (Y:=Y.take k) (some ⟨qb,0,none⟩) (some t) Ts (by rw [List.length_take];omega) ?_
  rw [← take_snoc hy]
  refine kJ (x:=(k,GV,ga,gc)) ((k+1,GV++[(some ⟨qb,0,none⟩)],ao18,cp18)) ?_ ?_ ?_ ?_
  · try dsimp only
    exact ⟨by omega,by simp [hGV]⟩
  · show n - (k+1) < n - k;omega
  · exact ⟨rfl,rfl,rfl,trivial⟩
  · (try simp only [Ca,Na]);exact Tf
 refine cW (qY (qY (kK (qQ (qL (qC (.q 0 (.q 1 (.done))) Kr ?_))))))
 refine qK rfl rfl rfl rfl (qS rfl rfl rfl rfl (qR (qW [2] (e':=[(2,_)]) rfl ?_)))
 refine qQ (qJ ?_)
 obtain rfl:k=n:=by omega
 rw [show Y.take k=Y from List.take_of_length_le Om]
 refine kD rfl rfl ((GV,ga,gc)) (by first | rfl | (first | rfl | (congr 1;done) | (congr 1 <;> first | rfl | omega | (simp;done) | (simp;omega)))) (by exact hGV) ?_
 exact Tf
theorem vcopy_spec (pa:Option Addr) (pc b:Nat) (x:VS) (hx:VInv x) (hn:x.ck.n≤4000000000000):Spec Tryz.prog 43 [.pointer (some ⟨b,0,none⟩)] [rvR pa pc b x] (fun (r:Nat)=>.pointer (some ⟨r,0,none⟩)) (fun r=>True) (fun r=>[rvR pa pc b x,rvR pa pc r x]):=by
 refine kQ (n:=72) Tryz.func43 rfl rfl rfl ?_
 intro Γ w0
 simp only [argE,Ca,Na,Zd,Nat.reduceAdd]
 refine qL (qC (.q 0 (.done)) Kr ?_)
 refine qS rfl rfl rfl rfl (qR (qQ (qL (rv_open (pa:=pa) (pc:=pc) (b:=b) (x:=x) Tk fun cb Ta Tc La Lc Oa Oc Ra Rc VT VL VO VR YR hVT hVL hVO hVR hK=>?_))))
 have hsh:=hx.ck.sh
 have hs1:=hsh.th
 have hs2:=hsh.lk
 have hs3:=hsh.vo
 have hkl:=hK.Rl
 refine kL rfl (.q 0 (.q 1 (.q 2 (.q 3 (.q 5 (.q 6 (.q 7 (.q 8 (.q 10 (.q 11 (.q 12 (.q 13 (.q 15 (.q 16 (.q 17 (.q 18 ((.l 4 [8,13,18] ((.l 9 [13,18] ((.l 14 [18] ((.l 19 [] (.q 20 ((.l 21 [] (.q 22 (.done))))))))))))))))))))))))))))) Kr ?_
 refine qK rfl rfl rfl rfl (qX rfl rfl rfl rfl (qG (k:=0) rfl rfl rfl rfl υ'111 rfl ζ'107 rfl ?_))
 refine qP (j:=0) rfl rfl rfl rfl α'107 Tk Az (by rfl) ?_
 refine qK rfl rfl rfl rfl (qX rfl rfl rfl rfl (qG (k:=1) rfl rfl rfl rfl υ'111 rfl ζ'108 rfl ?_))
 refine qP (j:=1) rfl rfl rfl rfl α'108 Tk Az (by rfl) ?_
 refine qK rfl rfl rfl rfl (qX rfl rfl rfl rfl (qG (k:=2) rfl rfl rfl rfl υ'111 rfl ζ'108 rfl ?_))
 refine qP (j:=2) rfl rfl rfl rfl α'108 Tk Az (by rfl) ?_
 refine qK rfl rfl rfl rfl (qX rfl rfl rfl rfl (qG (k:=3) rfl rfl rfl rfl υ'111 rfl ζ'108 rfl ?_))
 refine qP (j:=3) rfl rfl rfl rfl α'108 Tk Az (by rfl) ?_
 have sp_1:=Fe.rcopy_spec pa pc cb x.ck hx.ck
 refine qM rfl rfl rfl rfl rfl rfl Tryz.call89 (sp_1) Ts ?_
 rintro cq -
 try simp only [Ca,Na]
 refine qH (q:=1) rfl rfl rfl α'108 Tk Az (by rfl) ?_
 refine qH (q:=2) rfl rfl rfl α'108 Tk Az (by rfl) ?_
 refine qH (q:=3) rfl rfl rfl α'108 Tk Az (by rfl) ?_
 refine qV ?_
 have sp_2:=copies_spec VT (tabF x.ck.th.toNat x.th) Ta VT.length Tc Ln (by rw [tab_len];omega) Om
 refine qM rfl rfl rfl rfl rfl rfl Tryz.call90 (sp_2) Ts ?_
 rintro ⟨tqV,tqa,tqc⟩ htqV
 simp only at htqV
 try simp only [Ca,Na]
 refine qH (q:=2) rfl rfl rfl α'108 Tk Az (by rfl) ?_
 refine qH (q:=3) rfl rfl rfl α'108 Tk Az (by rfl) ?_
 refine qV ?_
 have sp_3:=copies_spec VL (tabF x.ck.lk.toNat x.lk) La VL.length Lc Ln (by rw [tab_len];omega) Om
 refine qM rfl rfl rfl rfl rfl rfl Tryz.call90 (sp_3) Ts ?_
 rintro ⟨lqV,lqa,lqc⟩ hlqV
 simp only at hlqV
 try simp only [Ca,Na]
 refine qH (q:=3) rfl rfl rfl α'108 Tk Az (by rfl) ?_
 refine qV ?_
 have sp_4:=copies_spec VO (tabF x.ck.vo.toNat x.vo) Oa VO.length Oc Ln (by rw [tab_len];omega) Om
 refine qM rfl rfl rfl rfl rfl rfl Tryz.call90 (sp_4) Ts ?_
 rintro ⟨oqV,oqa,oqc⟩ hoqV
 simp only at hoqV
 try simp only [Ca,Na]
 refine qV (cC rfl rfl rfl rfl (vs:=[_,_,_,_,_]) (kV υ'111 ω'111 (ps:=[(0,1),(1,1),(2,1),(3,1),(4,1)]) ⟨rfl,ζ'107,rfl,ζ'108,rfl,ζ'108,rfl,ζ'108,rfl,ζ'109,trivial⟩ rfl) ?_)
 refine sP rfl rfl rfl rfl (us:=[_,_,_,_,_]) rfl ?_
 intro b26
 refine qV (qS rfl rfl rfl rfl (qR (qW [0,3] (e':=[(0,_),(3,_)]) rfl ?_)))
 refine qQ (qL (qL (qC (.q 0 (.done)) Kr ?_)))
 refine qS rfl rfl rfl rfl (qR (qQ (kC (s_restL_nil (res:=krA) ?_))))
 refine cQ (fun _ h=>sR (sz:=3) (enc:=encK) h) ?_
 refine cH (α:=Nat × List KP × Option Addr × Nat) (fun (x_:Nat × List KP × Option Addr × Nat)=>match x_ with | (k,GR,ga,gc)=>k≤VR.length∧(GR.length=k)) (fun (x_:Nat × List KP × Option Addr × Nat)=>match x_ with | (k,GR,ga,gc)=>[(4,.int .i64 ((k:Nat):Int))]) (fun (x_:Nat × List KP × Option Addr × Nat)=>match x_ with | (k,GR,ga,gc)=>[restL krA VR YR [],restL krA GR (YR.take k) [],cells b26 0 [.pointer (some ⟨cq,0,none⟩),.slice tqa VT.length tqc,.slice lqa VL.length lqc,.slice oqa VO.length oqc,.slice ga k gc],own 1 encA tqa tqc tqV,own 1 encA lqa lqc lqV,own 1 encA oqa oqc oqV,own 3 encK ga gc GR]) (fun (x_:Nat × List KP × Option Addr × Nat)=>match x_ with | (k,GR,ga,gc)=>VR.length - k) [0,3] (er:=[(0,_),(3,_)]) rfl (0,[],none,0) ?_ (by exact ⟨rfl,trivial⟩) (by (try dsimp only);(try simp only [Ad,Zd]);(repeat ((with_reducible apply Z2);focus (first | (with_reducible (repeat (first | exact Z0 | apply Z1));done) | (repeat (first | exact Z0 | apply Z1)))));exact Z3) ?_
 · exact ⟨Nat.zero_le _,rfl⟩
 rintro ⟨k,GR,ga,gc⟩ ⟨hle_k,hGR⟩
 try simp only [Ca,Na]
 refine qL (qL (qC (.q 0 (.q 1 (.q 2 (.q 3 (.q 4 (.q 5 (.q 6 (.done)))))))) Kr ?_))
 refine qK rfl rfl rfl rfl (qK rfl rfl rfl rfl (qX rfl rfl rfl rfl (qG (k:=4) rfl rfl rfl rfl υ'111 rfl ζ'109 rfl ?_)))
 refine qP (j:=4) rfl rfl rfl rfl α'109 Tk Az (by rfl) ?_
 refine cJ rfl rfl rfl rfl υ'109 ?_
 refine qB rfl rfl rfl rfl rfl (cB _ _ _ _) ?_
 refine qR (qW [0,3,4,33] (e':=[(0,_),(3,_),(4,_),(33,_)]) rfl ?_)
 refine qQ ?_
 refine qD rfl (fun hlt=>?_) (fun hlt=>?_)
 ·
  refine qF (qQ (qL (kC ?_)))
  obtain ⟨yq,hyq⟩:=cR (l:=YR) (i:=k) Om
  refine cZ (res:=krA) (V:=VR) (Y:=YR) (S:=[]) k Tk (by simp) hyq fun v hvr=>?_
  refine s_kr Tk fun rb hrb=>?_
  subst hrb
  refine kL rfl (.q 0 (.q 1 (.q 2 (.q 3 (.q 4 (.q 5 (.q 6 (.q 7 (.q 8 (.q 9 (.q 10 (.q 11 (.q 12 (.q 13 (.q 14 (.q 15 (.q 16 (.q 17 (.q 18 (.q 19 (.q 20 (.q 21 (.q 22 (.q 23 (.q 24 (.q 25 (.q 26 (.q 27 (.q 28 ((.l 29 [4,8,12,16,20] (.q 30 ((.l 31 [4] ((.l 32 [] (.q 33 (.q 34 ((.l 35 [] (.done))))))))))))))))))))))))))))))))))))))))) Kr ?_
  refine qK rfl rfl rfl rfl (qK rfl rfl rfl rfl (qX rfl rfl rfl rfl (qG (k:=4) rfl rfl rfl rfl υ'111 rfl ζ'109 rfl ?_)))
  refine qP (j:=4) rfl rfl rfl rfl α'109 Tk Az (by rfl) ?_
  refine qK rfl rfl rfl rfl (qX rfl rfl rfl rfl (qG (k:=4) rfl rfl rfl rfl υ'111 rfl ζ'109 rfl ?_))
  refine qP (j:=4) rfl rfl rfl rfl α'109 Tk Az (by rfl) ?_
  refine qK rfl rfl rfl rfl (kF (sz:=2) (k:=k) (enc:=encK) (xs:=VR) rfl rfl rfl rfl rfl υ'109 ζ'170 hvr (by first | rfl | omega) Om Tk ?_)
  intro ib46 io46 ha46 hl46 hc46
  refine qG (k:=0) rfl rfl rfl rfl υ'170 rfl ζ'3 rfl ?_
  refine kS (v:=(.int .i64 yq.1)) (j:=0) (k':=k) (enc:=encK) (off:=io46) rfl rfl rfl rfl α'3 ha46 encK_len hvr Tk (by first | rfl | exact (Ad _).symm | omega) (by rfl) ?_
  refine qK rfl rfl rfl rfl (qX rfl rfl rfl rfl (qG (k:=4) rfl rfl rfl rfl υ'111 rfl ζ'109 rfl ?_))
  refine qP (j:=4) rfl rfl rfl rfl α'109 Tk Az (by rfl) ?_
  refine qK rfl rfl rfl rfl (kF (sz:=2) (k:=k) (enc:=encK) (xs:=VR) rfl rfl rfl rfl rfl υ'109 ζ'170 hvr (by first | rfl | omega) Om Tk ?_)
  intro ib54 io54 ha54 hl54 hc54
  refine qG (k:=1) rfl rfl rfl rfl υ'170 rfl ζ'3 rfl ?_
  refine kS (v:=(.int .i64 yq.2.1)) (j:=1) (k':=k) (enc:=encK) (off:=io54) rfl rfl rfl rfl α'3 ha54 encK_len hvr Tk (by first | rfl | exact (Ad _).symm | omega) (by rfl) ?_
  refine qK rfl rfl rfl rfl (qX rfl rfl rfl rfl (qG (k:=4) rfl rfl rfl rfl υ'111 rfl ζ'109 rfl ?_))
  refine qP (j:=4) rfl rfl rfl rfl α'109 Tk Az (by rfl) ?_
  refine qK rfl rfl rfl rfl (kF (sz:=2) (k:=k) (enc:=encK) (xs:=VR) rfl rfl rfl rfl rfl υ'109 ζ'170 hvr (by first | rfl | omega) Om Tk ?_)
  intro ib62 io62 ha62 hl62 hc62
  refine qG (k:=2) rfl rfl rfl rfl υ'170 rfl ζ'102 rfl ?_
  refine kS (v:=(.pointer (some ⟨rb,0,none⟩))) (j:=2) (k':=k) (enc:=encK) (off:=io62) rfl rfl rfl rfl α'102 ha62 encK_len hvr Tk (by first | rfl | exact (Ad _).symm | omega) (by rfl) ?_
  have sp_5:=Rv.copy_spec rb yq.2.2
  refine qM rfl rfl rfl rfl rfl rfl κ'44 (sp_5) Ts ?_
  rintro qb -
  try simp only [Ca,Na]
  refine qH (q:=4) rfl rfl rfl α'109 Tk Az (by rfl) ?_
  refine qH (q:=4) rfl rfl rfl α'109 Tk Az (by rfl) ?_
  refine sJ (v:=(.int .i64 yq.1)) (j:=0) (k':=k) (enc:=encK) (off:=io46) rfl rfl rfl α'3 ha46 encK_len hvr Tk (by first | rfl | exact (Ad _).symm | omega) (by rfl) ?_
  refine qH (q:=4) rfl rfl rfl α'109 Tk Az (by rfl) ?_
  refine sJ (v:=(.int .i64 yq.2.1)) (j:=1) (k':=k) (enc:=encK) (off:=io54) rfl rfl rfl α'3 ha54 encK_len hvr Tk (by first | rfl | exact (Ad _).symm | omega) (by rfl) ?_
  refine qV (cC rfl rfl rfl rfl (vs:=[_,_,_]) (kV υ'170 ω'170 (ps:=[(0,1),(1,1),(2,1)]) ⟨rfl,ζ'3,rfl,ζ'3,rfl,ζ'102,trivial⟩ rfl) ?_)
  refine cL rfl rfl rfl rfl (sQ (us:=[_,_,_]) υ'109 ζ'170 rfl ω'170 rfl rfl rfl) ?_
  intro b67
  refine qH (q:=4) rfl rfl rfl α'109 Tk Az (by rfl) ?_
  refine qV (sG (sz:=3) (enc:=encK) (xs:=GR) rfl rfl rfl rfl rfl υ'109 Tryz.typeInfo170 rfl rfl rfl (by decide) Tk Tk (by first | rfl | omega | (simp;done) | (simp;omega)) (ys:=[((yq.1,yq.2.1,some ⟨qb,0,none⟩):KP)]) (sX sS) (by rfl) (by first | rfl | omega) (encK_len) (encK_one) Om (by show _*24≤_;omega) ?_)
  intro ao68 cp68
  refine kB 68 rfl (v':=.slice ao68 (k+1) cp68) (by first | rfl | (congr 1;done) | (congr 1 <;> first | rfl | omega | (simp;done) | (simp;omega))) ?_
  refine qV (qX rfl rfl rfl rfl (qG (k:=4) rfl rfl rfl rfl υ'111 rfl ζ'109 rfl ?_))
  refine kH (j:=4) rfl rfl rfl rfl ζ'109 (us:=[_]) rfl rfl rfl Tk Az (by first | decide | (simp;done) | omega) ?_
  simp only [setL,List.set]
  refine qV (qR (qW [0,3,4] (e':=[(0,_),(3,_),(4,_)]) rfl ?_))
  refine kX (qQ (qC (.q 0 (.q 1 (.q 2 (.done)))) Kr ?_))
  refine qK rfl rfl rfl rfl (qB rfl rfl rfl rfl rfl (cV _ (by exact kP Om Om)) ?_)
  refine qS rfl rfl rfl rfl (qR (qQ (s_krF rb yq Td ?_)))
  refine cY (res:=krA) (V:=VR) (Y:=YR) (S:=[]) k Ts (by simp) hvr hyq ?_
  refine s_krF qb yq Td ?_
  refine s_restL_push (res:=krA) (V:=GR) (Y:=YR.take k) ((yq.1,yq.2.1,some ⟨qb,0,none⟩):KP) yq Ts (by rw [List.length_take];omega) ?_
  rw [← take_snoc hyq]
  refine kJ (x:=(k,GR,ga,gc)) ((k+1,GR++[((yq.1,yq.2.1,some ⟨qb,0,none⟩):KP)],ao68,cp68)) ?_ ?_ ?_ ?_
  · try dsimp only
    exact ⟨by omega,by simp [hGR]⟩
  · show VR.length - (k+1) < VR.length - k;omega
  · exact ⟨rfl,rfl,rfl,trivial⟩
  · (try simp only [Ca,Na]);exact Tf
 refine cW (qY (qY (kK (qQ (qL (qC (.q 0 (.q 1 (.done))) Kr ?_))))))
 refine qK rfl rfl rfl rfl (qS rfl rfl rfl rfl (qR (qW [2] (e':=[(2,_)]) rfl ?_)))
 refine qQ (qJ ?_)
 obtain rfl:k=VR.length:=by omega
 rw [show YR.take VR.length=YR from List.take_of_length_le Om]
 refine rv_fold (b:=b) x (pa:=pa) (pc:=pc) (cb:=cb) (Ta:=Ta) (Tc:=Tc) (La:=La) (Lc:=Lc) (Oa:=Oa) (Oc:=Oc) (Ra:=Ra) (Rc:=Rc) (VT:=VT) (VL:=VL) (VO:=VO) (VR:=VR) (YR:=YR) Ts (by first | rfl | simp) (by first | rfl | simp) (by first | rfl | simp) (by first | rfl | simp) rfl rfl rfl rfl hVT hVL hVO hVR hK ?_
 refine rv_fold (b:=b26) x (pa:=pa) (pc:=pc) (cb:=cq) (Ta:=tqa) (Tc:=tqc) (La:=lqa) (Lc:=lqc) (Oa:=oqa) (Oc:=oqc) (Ra:=ga) (Rc:=gc) (VT:=tqV) (VL:=lqV) (VO:=oqV) (VR:=GR) (YR:=YR) Ts (by first | rfl | exact htqV.symm | exact hlqV.symm | exact hoqV.symm | omega) (by first | rfl | exact htqV.symm | exact hlqV.symm | exact hoqV.symm | omega) (by first | rfl | exact htqV.symm | exact hlqV.symm | exact hoqV.symm | omega) (by first | rfl | exact htqV.symm | exact hlqV.symm | exact hoqV.symm | omega) rfl rfl rfl rfl (htqV.trans hVT) (hlqV.trans hVL) (hoqV.trans hVO) Om hK ?_
 refine kD rfl rfl (b26) (by first | rfl | (first | rfl | (congr 1;done) | (congr 1 <;> first | rfl | omega | (simp;done) | (simp;omega)))) (by trivial) ?_
 exact Tf
theorem begin_spec (th va vo lk:Int) (pl:List Int) (ao:Option Addr) (n c:Nat) (A:HProp) (hr:RdS A ao (pl.flatMap encZ)) (hn:pl.length=n) (hb:n≤4000000) (hok:OkS th va vo lk pl):Spec Tryz.prog 33 [.agg #[.int .i64 th,.int .i64 va,.int .i64 vo,.int .i64 lk,.slice ao n c]] [A] (fun (r:Nat × Option Addr × Nat)=>.tuple #[.pointer (some ⟨r.1,0,none⟩),.int .i64 0]) (fun r=>True) (fun r=>[A,own 1 encZ r.2.1 r.2.2 pl,rvR r.2.1 r.2.2 r.1 (vNew th va vo lk pl)]):=by
 refine kQ (n:=41) Tryz.func33 rfl rfl rfl ?_
 intro Γ w0
 simp only [argE,Ca,Na,Zd,Nat.reduceAdd]
 refine qL (qC ((.l 0 [] (.q 1 (.q 2 (.done))))) Kr ?_)
 refine sP rfl rfl rfl rfl (us:=[_,_,_,_,_]) rfl ?_
 intro b1
 refine qV (qS rfl rfl rfl rfl (qS rfl rfl rfl rfl (qR (qQ (qL (qC (.q 0 ((.l 1 [] (.q 2 (.q 3 (.q 4 (.q 5 (.q 6 (.done))))))))) Kr ?_))))))
 refine kG rfl rfl rfl rfl α'24 ζ'24 Tk 0 (us:=[_,_,_,_,_]) Az rfl rfl ?_
 have sp_1:=Fe.rnew_spec th va vo lk pl ao n c A (hr) Ln Om hok
 refine qM rfl rfl rfl rfl rfl rfl Tryz.call73 (sp_1) Ts ?_
 rintro ⟨nq,nqp,nqc⟩ -
 try simp only [Ca,Na]
 refine qV (qK rfl rfl rfl rfl (kY rfl rfl rfl rfl rfl (kY rfl rfl rfl rfl rfl (qS rfl rfl rfl rfl (qS rfl rfl rfl rfl (qR (qW [1,4,5] (e':=[(1,_),(4,_),(5,_)]) rfl ?_)))))))
 refine qQ (qL (qL ?_))
 have hth:=hok.th;have hva:=hok.va;have hvo:=hok.vo;have hlk:=hok.lk
 obtain ⟨tn,htn⟩:∃ q:Nat,th=(q:Int):=⟨th.toNat,by omega⟩
 obtain ⟨vn,hvn⟩:∃ q:Nat,va=(q:Int):=⟨va.toNat,by omega⟩
 obtain ⟨on,hon⟩:∃ q:Nat,vo=(q:Int):=⟨vo.toNat,by omega⟩
 obtain ⟨ln,hln⟩:∃ q:Nat,lk=(q:Int):=⟨lk.toNat,by omega⟩
 refine cS (A:=cells b1 0 [.int .i64 th,.int .i64 va,.int .i64 vo,.int .i64 lk,.slice ao n c]) Tk ?_
 refine cQ (Γ':=cells b1 0 [.int .i64 ((tn:Nat):Int),.int .i64 ((vn:Nat):Int),.int .i64 ((on:Nat):Int),.int .i64 ((ln:Nat):Int),.slice ao n c]::_) (fun _ h=>(by rw [← htn,← hvn,← hon,← hln];exact h)) ?_
 refine qC (.q 0 (.q 1 (.done))) Kr ?_
 refine qK rfl rfl rfl rfl (qB rfl rfl rfl rfl rfl (b_neq _ _ _ _) ?_)
 refine kB 13 rfl (v':=.bool false) (by first | rfl | simp) ?_
 refine qR (qQ (kZ rfl ?_))
 refine qF (qQ ?_)
 refine c_seqJ (α:=Nat × Nat × Nat × Nat) (fun (x_:Nat × Nat × Nat × Nat)=>match x_ with | (d,v1,v2,v3)=>True) (fun (x_:Nat × Nat × Nat × Nat)=>match x_ with | (d,v1,v2,v3)=>[(6,.pointer (some ⟨d,0,none⟩))]) (fun (x_:Nat × Nat × Nat × Nat)=>match x_ with | (d,v1,v2,v3)=>[cells d 0 [.pointer (some ⟨nq,0,none⟩),.slice (some ⟨v1,0,none⟩) tn tn,.slice (some ⟨v2,0,none⟩) ln ln,.slice (some ⟨v3,0,none⟩) on on,.slice none 0 0],own 1 encA (some ⟨v1,0,none⟩) tn (List.replicate tn (none:Option Addr)),own 1 encA (some ⟨v2,0,none⟩) ln (List.replicate ln (none:Option Addr)),own 1 encA (some ⟨v3,0,none⟩) on (List.replicate on (none:Option Addr))]) [] (er:=[]) rfl [] Ts ?_ ?_
 ·
  refine kL rfl (.q 0 (.q 1 (.q 2 (.q 4 (.q 5 (.q 7 (.q 8 ((.alt (.l 3 [5,8] ((.alt (.l 6 [8] ((.l 9 [] (.q 10 ((.l 11 [] (.q 12 (.done)))))))) (.l 9 [5] ((.l 6 [] (.q 10 ((.l 11 [] (.q 12 (.done))))))))))) (.alt (.l 6 [2,8] ((.alt (.l 3 [8] ((.l 9 [] (.q 10 ((.l 11 [] (.q 12 (.done)))))))) (.l 9 [2] ((.l 3 [] (.q 10 ((.l 11 [] (.q 12 (.done))))))))))) (.l 9 [2,5] ((.alt (.l 3 [5] ((.l 6 [] (.q 10 ((.l 11 [] (.q 12 (.done)))))))) (.l 6 [2] ((.l 3 [] (.q 10 ((.l 11 [] (.q 12 (.done))))))))))))))))))))) Kr ?_
  refine qK rfl rfl rfl rfl (qG (k:=0) rfl rfl rfl rfl υ'24 rfl ζ'3 rfl ?_)
  refine qP (j:=0) rfl rfl rfl rfl α'3 Tk Az (by rfl) ?_
  refine qG (k:=3) rfl rfl rfl rfl υ'24 rfl ζ'3 rfl ?_
  refine qP (j:=3) rfl rfl rfl rfl α'3 Tk Az (by rfl) ?_
  refine qG (k:=2) rfl rfl rfl rfl υ'24 rfl ζ'3 rfl ?_
  refine qP (j:=2) rfl rfl rfl rfl α'3 Tk Az (by rfl) ?_
  refine r_alt ?_ ?_
  ·
   refine l_make (sz:=1) (enc:=encA) (len:=tn) (cap:=tn) ((none:Option Addr)) rfl rfl rfl rfl rfl (by first | rfl | omega) (by first | rfl | omega) υ'108 τ'102 rfl rfl rfl (by decide) Om Om (by show 8*_≤_;omega) (by rfl) (encA_len) ?_
   intro b18
   refine qH (q:=3) rfl rfl rfl α'3 Tk Az (by rfl) ?_
   refine qH (q:=2) rfl rfl rfl α'3 Tk Az (by rfl) ?_
   refine qV ?_
   refine r_alt ?_ ?_
   ·
    refine l_make (sz:=1) (enc:=encA) (len:=ln) (cap:=ln) ((none:Option Addr)) rfl rfl rfl rfl rfl (by first | rfl | omega) (by first | rfl | omega) υ'108 τ'102 rfl rfl rfl (by decide) Om Om (by show 8*_≤_;omega) (by rfl) (encA_len) ?_
    intro b21
    refine qH (q:=2) rfl rfl rfl α'3 Tk Az (by rfl) ?_
    refine qV (l_make (sz:=1) (enc:=encA) (len:=on) (cap:=on) ((none:Option Addr)) rfl rfl rfl rfl rfl (by first | rfl | omega) (by first | rfl | omega) υ'108 τ'102 rfl rfl rfl (by decide) Om Om (by show 8*_≤_;omega) (by rfl) (encA_len) ?_)
    intro b24
    refine qV (cC rfl rfl rfl rfl (vs:=[_,_,_,_,_]) (kV υ'111 ω'111 (ps:=[(0,1),(1,1),(2,1),(3,1),(4,1)]) ⟨rfl,ζ'107,rfl,ζ'108,rfl,ζ'108,rfl,ζ'108,rfl,ζ'109,trivial⟩ rfl) ?_)
    refine sP rfl rfl rfl rfl (us:=[_,_,_,_,_]) rfl ?_
    intro b26
    refine qV (qS rfl rfl rfl rfl (qR (qW [6] (e':=[(6,_)]) rfl ?_)))
    refine qQ ?_
    refine join_next ((b26,b18,b21,b24)) (by trivial) (by exact ⟨rfl,trivial⟩) (by (try simp only [Ca,Na]);(repeat ((with_reducible apply Z2);focus (first | (with_reducible (repeat (first | exact Z0 | apply Z1));done) | (repeat (first | exact Z0 | apply Z1)))));(repeat (first | exact Z3 | exact Takes.self | refine takes_drop2 ?_)))
   refine l_make (sz:=1) (enc:=encA) (len:=on) (cap:=on) ((none:Option Addr)) rfl rfl rfl rfl rfl (by first | rfl | omega) (by first | rfl | omega) υ'108 τ'102 rfl rfl rfl (by decide) Om Om (by show 8*_≤_;omega) (by rfl) (encA_len) ?_
   intro b24
   refine qH (q:=3) rfl rfl rfl α'3 Tk Az (by rfl) ?_
   refine qV (l_make (sz:=1) (enc:=encA) (len:=ln) (cap:=ln) ((none:Option Addr)) rfl rfl rfl rfl rfl (by first | rfl | omega) (by first | rfl | omega) υ'108 τ'102 rfl rfl rfl (by decide) Om Om (by show 8*_≤_;omega) (by rfl) (encA_len) ?_)
   intro b21
   refine qV (cC rfl rfl rfl rfl (vs:=[_,_,_,_,_]) (kV υ'111 ω'111 (ps:=[(0,1),(1,1),(2,1),(3,1),(4,1)]) ⟨rfl,ζ'107,rfl,ζ'108,rfl,ζ'108,rfl,ζ'108,rfl,ζ'109,trivial⟩ rfl) ?_)
   refine sP rfl rfl rfl rfl (us:=[_,_,_,_,_]) rfl ?_
   intro b26
   refine qV (qS rfl rfl rfl rfl (qR (qW [6] (e':=[(6,_)]) rfl ?_)))
   refine qQ ?_
   refine join_next ((b26,b18,b21,b24)) (by trivial) (by exact ⟨rfl,trivial⟩) (by (try simp only [Ca,Na]);(repeat ((with_reducible apply Z2);focus (first | (with_reducible (repeat (first | exact Z0 | apply Z1));done) | (repeat (first | exact Z0 | apply Z1)))));(repeat (first | exact Z3 | exact Takes.self | refine takes_drop2 ?_)))
  refine r_alt ?_ ?_
  ·
   refine l_make (sz:=1) (enc:=encA) (len:=ln) (cap:=ln) ((none:Option Addr)) rfl rfl rfl rfl rfl (by first | rfl | omega) (by first | rfl | omega) υ'108 τ'102 rfl rfl rfl (by decide) Om Om (by show 8*_≤_;omega) (by rfl) (encA_len) ?_
   intro b21
   refine qH (q:=0) rfl rfl rfl α'3 Tk Az (by rfl) ?_
   refine qH (q:=2) rfl rfl rfl α'3 Tk Az (by rfl) ?_
   refine qV ?_
   refine r_alt ?_ ?_
   ·
    refine l_make (sz:=1) (enc:=encA) (len:=tn) (cap:=tn) ((none:Option Addr)) rfl rfl rfl rfl rfl (by first | rfl | omega) (by first | rfl | omega) υ'108 τ'102 rfl rfl rfl (by decide) Om Om (by show 8*_≤_;omega) (by rfl) (encA_len) ?_
    intro b18
    refine qH (q:=2) rfl rfl rfl α'3 Tk Az (by rfl) ?_
    refine qV (l_make (sz:=1) (enc:=encA) (len:=on) (cap:=on) ((none:Option Addr)) rfl rfl rfl rfl rfl (by first | rfl | omega) (by first | rfl | omega) υ'108 τ'102 rfl rfl rfl (by decide) Om Om (by show 8*_≤_;omega) (by rfl) (encA_len) ?_)
    intro b24
    refine qV (cC rfl rfl rfl rfl (vs:=[_,_,_,_,_]) (kV υ'111 ω'111 (ps:=[(0,1),(1,1),(2,1),(3,1),(4,1)]) ⟨rfl,ζ'107,rfl,ζ'108,rfl,ζ'108,rfl,ζ'108,rfl,ζ'109,trivial⟩ rfl) ?_)
    refine sP rfl rfl rfl rfl (us:=[_,_,_,_,_]) rfl ?_
    intro b26
    refine qV (qS rfl rfl rfl rfl (qR (qW [6] (e':=[(6,_)]) rfl ?_)))
    refine qQ ?_
    refine join_next ((b26,b18,b21,b24)) (by trivial) (by exact ⟨rfl,trivial⟩) (by (try simp only [Ca,Na]);(repeat ((with_reducible apply Z2);focus (first | (with_reducible (repeat (first | exact Z0 | apply Z1));done) | (repeat (first | exact Z0 | apply Z1)))));(repeat (first | exact Z3 | exact Takes.self | refine takes_drop2 ?_)))
   refine l_make (sz:=1) (enc:=encA) (len:=on) (cap:=on) ((none:Option Addr)) rfl rfl rfl rfl rfl (by first | rfl | omega) (by first | rfl | omega) υ'108 τ'102 rfl rfl rfl (by decide) Om Om (by show 8*_≤_;omega) (by rfl) (encA_len) ?_
   intro b24
   refine qH (q:=0) rfl rfl rfl α'3 Tk Az (by rfl) ?_
   refine qV (l_make (sz:=1) (enc:=encA) (len:=tn) (cap:=tn) ((none:Option Addr)) rfl rfl rfl rfl rfl (by first | rfl | omega) (by first | rfl | omega) υ'108 τ'102 rfl rfl rfl (by decide) Om Om (by show 8*_≤_;omega) (by rfl) (encA_len) ?_)
   intro b18
   refine qV (cC rfl rfl rfl rfl (vs:=[_,_,_,_,_]) (kV υ'111 ω'111 (ps:=[(0,1),(1,1),(2,1),(3,1),(4,1)]) ⟨rfl,ζ'107,rfl,ζ'108,rfl,ζ'108,rfl,ζ'108,rfl,ζ'109,trivial⟩ rfl) ?_)
   refine sP rfl rfl rfl rfl (us:=[_,_,_,_,_]) rfl ?_
   intro b26
   refine qV (qS rfl rfl rfl rfl (qR (qW [6] (e':=[(6,_)]) rfl ?_)))
   refine qQ ?_
   refine join_next ((b26,b18,b21,b24)) (by trivial) (by exact ⟨rfl,trivial⟩) (by (try simp only [Ca,Na]);(repeat ((with_reducible apply Z2);focus (first | (with_reducible (repeat (first | exact Z0 | apply Z1));done) | (repeat (first | exact Z0 | apply Z1)))));(repeat (first | exact Z3 | exact Takes.self | refine takes_drop2 ?_)))
  refine l_make (sz:=1) (enc:=encA) (len:=on) (cap:=on) ((none:Option Addr)) rfl rfl rfl rfl rfl (by first | rfl | omega) (by first | rfl | omega) υ'108 τ'102 rfl rfl rfl (by decide) Om Om (by show 8*_≤_;omega) (by rfl) (encA_len) ?_
  intro b24
  refine qH (q:=0) rfl rfl rfl α'3 Tk Az (by rfl) ?_
  refine qH (q:=3) rfl rfl rfl α'3 Tk Az (by rfl) ?_
  refine qV ?_
  refine r_alt ?_ ?_
  ·
   refine l_make (sz:=1) (enc:=encA) (len:=tn) (cap:=tn) ((none:Option Addr)) rfl rfl rfl rfl rfl (by first | rfl | omega) (by first | rfl | omega) υ'108 τ'102 rfl rfl rfl (by decide) Om Om (by show 8*_≤_;omega) (by rfl) (encA_len) ?_
   intro b18
   refine qH (q:=3) rfl rfl rfl α'3 Tk Az (by rfl) ?_
   refine qV (l_make (sz:=1) (enc:=encA) (len:=ln) (cap:=ln) ((none:Option Addr)) rfl rfl rfl rfl rfl (by first | rfl | omega) (by first | rfl | omega) υ'108 τ'102 rfl rfl rfl (by decide) Om Om (by show 8*_≤_;omega) (by rfl) (encA_len) ?_)
   intro b21
   refine qV (cC rfl rfl rfl rfl (vs:=[_,_,_,_,_]) (kV υ'111 ω'111 (ps:=[(0,1),(1,1),(2,1),(3,1),(4,1)]) ⟨rfl,ζ'107,rfl,ζ'108,rfl,ζ'108,rfl,ζ'108,rfl,ζ'109,trivial⟩ rfl) ?_)
   refine sP rfl rfl rfl rfl (us:=[_,_,_,_,_]) rfl ?_
   intro b26
   refine qV (qS rfl rfl rfl rfl (qR (qW [6] (e':=[(6,_)]) rfl ?_)))
   refine qQ ?_
   refine join_next ((b26,b18,b21,b24)) (by trivial) (by exact ⟨rfl,trivial⟩) (by (try simp only [Ca,Na]);(repeat ((with_reducible apply Z2);focus (first | (with_reducible (repeat (first | exact Z0 | apply Z1));done) | (repeat (first | exact Z0 | apply Z1)))));(repeat (first | exact Z3 | exact Takes.self | refine takes_drop2 ?_)))
  refine l_make (sz:=1) (enc:=encA) (len:=ln) (cap:=ln) ((none:Option Addr)) rfl rfl rfl rfl rfl (by first | rfl | omega) (by first | rfl | omega) υ'108 τ'102 rfl rfl rfl (by decide) Om Om (by show 8*_≤_;omega) (by rfl) (encA_len) ?_
  intro b21
  refine qH (q:=0) rfl rfl rfl α'3 Tk Az (by rfl) ?_
  refine qV (l_make (sz:=1) (enc:=encA) (len:=tn) (cap:=tn) ((none:Option Addr)) rfl rfl rfl rfl rfl (by first | rfl | omega) (by first | rfl | omega) υ'108 τ'102 rfl rfl rfl (by decide) Om Om (by show 8*_≤_;omega) (by rfl) (encA_len) ?_)
  intro b18
  refine qV (cC rfl rfl rfl rfl (vs:=[_,_,_,_,_]) (kV υ'111 ω'111 (ps:=[(0,1),(1,1),(2,1),(3,1),(4,1)]) ⟨rfl,ζ'107,rfl,ζ'108,rfl,ζ'108,rfl,ζ'108,rfl,ζ'109,trivial⟩ rfl) ?_)
  refine sP rfl rfl rfl rfl (us:=[_,_,_,_,_]) rfl ?_
  intro b26
  refine qV (qS rfl rfl rfl rfl (qR (qW [6] (e':=[(6,_)]) rfl ?_)))
  refine qQ ?_
  refine join_next ((b26,b18,b21,b24)) (by trivial) (by exact ⟨rfl,trivial⟩) (by (try simp only [Ca,Na]);(repeat ((with_reducible apply Z2);focus (first | (with_reducible (repeat (first | exact Z0 | apply Z1));done) | (repeat (first | exact Z0 | apply Z1)))));(repeat (first | exact Z3 | exact Takes.self | refine takes_drop2 ?_)))
 rintro ⟨d,v1,v2,v3⟩ -
 try simp only [Ca,Na]
 refine qL ?_
 have h00:(List.replicate tn (none:Option Addr))[0]?=some none:=by rw [List.getElem?_replicate,if_pos Om]
 refine kL rfl (.q 0 (.q 1 (.q 2 (.q 3 ((.l 4 [3] (.q 5 ((.l 6 [] (.done)))))))))) Kr ?_
 refine qK rfl rfl rfl rfl (qX rfl rfl rfl rfl (qG (k:=1) rfl rfl rfl rfl υ'111 rfl ζ'108 rfl ?_))
 refine qP (j:=1) rfl rfl rfl rfl α'108 Tk Az (by rfl) ?_
 have sp_2:=Rv.new_spec
 refine qM rfl rfl rfl rfl rfl rfl Tryz.call34 (sp_2) Ts ?_
 rintro q0 -
 try simp only [Ca,Na]
 refine qH (q:=1) rfl rfl rfl α'108 Tk Az (by rfl) ?_
 refine qV (kF (sz:=0) (k:=0) (enc:=encA) (xs:=(List.replicate tn (none:Option Addr))) rfl rfl rfl rfl rfl υ'108 ζ'102 h00 (by first | rfl | omega) Om Tk ?_)
 intro ib32 io32 ha32 hl32 hc32
 refine sK (j:=0) (k:=0) (q:=(some ⟨q0,0,none⟩)) (enc:=encA) (off:=io32) rfl rfl rfl rfl ζ'102 (us:=[_]) rfl rfl rfl ha32 encA_len h00 Tk (by first | rfl | exact (Ad _).symm | omega) (by first | decide | exact Nat.le_of_ble_eq_true rfl) (by rfl) ?_
 refine qV (qR (qW [6] (e':=[(6,_)]) rfl ?_))
 refine qQ (qL ?_)
 have h01:((List.replicate tn (none:Option Addr)).set 0 (some ⟨q0,0,none⟩))[0]?=some (some ⟨q0,0,none⟩):=List.getElem?_set_self (by simp;omega)
 refine qC (.q 0 (.q 1 (.q 2 (.q 3 (.q 4 (.q 5 ((.l 6 [] (.done))))))))) Kr ?_
 refine qK rfl rfl rfl rfl (qX rfl rfl rfl rfl (qG (k:=1) rfl rfl rfl rfl υ'111 rfl ζ'108 rfl ?_))
 refine qP (j:=1) rfl rfl rfl rfl α'108 Tk Az (by rfl) ?_
 refine kF (sz:=0) (k:=0) (enc:=encA) (xs:=((List.replicate tn (none:Option Addr)).set 0 (some ⟨q0,0,none⟩))) rfl rfl rfl rfl rfl υ'108 ζ'102 h01 (by first | rfl | omega) (by first | omega | (simp;omega)) Tk ?_
 intro ib37 io37 ha37 hl37 hc37
 refine kS (v:=(.pointer (some ⟨q0,0,none⟩))) (j:=0) (k':=0) (enc:=encA) (off:=io37) rfl rfl rfl rfl α'102 ha37 encA_len h01 Tk (by first | rfl | exact (Ad _).symm | omega) (by rfl) ?_
 have sp_3:=Rv.inc_spec q0 ([]:List Int) 0 (by decide) (by decide)
 refine qM rfl rfl rfl rfl rfl rfl κ'74 (sp_3) Ts ?_
 rintro ⟨⟩ -
 try simp only [Ca,Na]
 refine qV (qR (qW [6] (e':=[(6,_)]) rfl ?_))
 refine qQ (qL (qC (.q 0 (.q 1 (.q 2 (.done)))) Kr ?_))
 refine qK rfl rfl rfl rfl (qS rfl rfl rfl rfl (qS rfl rfl rfl rfl (qR (qQ (qJ ?_)))))
 rw [show icL [] 0=[1] from by decide]
 refine s_restL_rep tn ?_
 refine cZ (res:=optR) (V:=List.replicate tn none) (Y:=List.replicate tn none) (S:=[]) 0 Tk (by simp) (by rw [List.getElem?_replicate,if_pos Om]) fun ka hka=>?_
 refine optR_someF (b:=q0) (t:=[1]) Td ?_
 refine cD (res:=optR) (V:=List.replicate tn none) (Y:=List.replicate tn none) (S:=[]) 0 (some ⟨q0,0,none⟩) (some [1]) Ts (by simp) (by simp;omega) (by simp;omega) ?_
 rw [show (List.replicate tn (none:Option (List Int))).set 0 (some [1])=tabF tn (upd noF 0 (some [1])) from by rw [← tab_rep];exact tab_set]
 refine s_restL_rep ln ?_
 refine s_restL_rep on ?_
 refine cQ (fun _ h=>sR (sz:=3) (enc:=encK) h) ?_
 refine s_restL_nil (res:=krA) ?_
 refine rv_fold (b:=d) (vNew th va vo lk pl) (pa:=nqp) (pc:=nqc) (cb:=nq) (Ta:=some ⟨v1,0,none⟩) (Tc:=tn) (La:=some ⟨v2,0,none⟩) (Lc:=ln) (Oa:=some ⟨v3,0,none⟩) (Oc:=on) (Ra:=none) (Rc:=0) (VT:=((List.replicate tn (none:Option Addr)).set 0 (some ⟨q0,0,none⟩))) (VL:=List.replicate ln none) (VO:=List.replicate on none) (VR:=[]) (YR:=[]) Ts (by first | rfl | simp) (by first | rfl | simp) (by first | rfl | simp) (by first | rfl | simp) rfl (by simp only [vNew,newF,htn,Int.toNat_natCast]) (by simp only [vNew,newF,hln,Int.toNat_natCast];exact (tab_rep _).symm) (by simp only [vNew,newF,hon,Int.toNat_natCast];exact (tab_rep _).symm) (by simp [vNew,newF,htn]) (by simp [vNew,newF,hln]) (by simp [vNew,newF,hon]) rfl (relK_nil (by show (0:Int)≤0;decide)) ?_
 refine ret2 rfl rfl rfl ((d,nqp,nqc)) (by first | rfl | (first | rfl | (congr 1;done) | (congr 1 <;> first | rfl | omega | (simp;done) | (simp;omega)))) (by trivial) ?_
 exact Tf
theorem beginbad_spec (th va vo lk:Int) (pl:List Int) (ao:Option Addr) (n c:Nat) (A:HProp) (hr:RdS A ao (pl.flatMap encZ)) (hn:pl.length=n) (hb:n≤4000000) (hok:¬ OkS th va vo lk pl):Spec Tryz.prog 33 [.agg #[.int .i64 th,.int .i64 va,.int .i64 vo,.int .i64 lk,.slice ao n c]] [A] (fun (_:Unit)=>.tuple #[.pointer none,.int .i64 5]) (fun _=>True) (fun _=>[A]):=by
 refine kQ (n:=41) Tryz.func33 rfl rfl rfl ?_
 intro Γ w0
 simp only [argE,Ca,Na,Zd,Nat.reduceAdd]
 refine qL (qC ((.l 0 [] (.q 1 (.q 2 (.done))))) Kr ?_)
 refine sP rfl rfl rfl rfl (us:=[_,_,_,_,_]) rfl ?_
 intro b1
 refine qV (qS rfl rfl rfl rfl (qS rfl rfl rfl rfl (qR (qQ (qL (qC (.q 0 ((.l 1 [] (.q 2 (.q 3 (.q 4 (.q 5 (.q 6 (.done))))))))) Kr ?_))))))
 refine kG rfl rfl rfl rfl α'24 ζ'24 Tk 0 (us:=[_,_,_,_,_]) Az rfl rfl ?_
 have sp_2:=Fe.rnewbad_spec th va vo lk pl ao n c A (hr) Ln Om hok
 refine qM rfl rfl rfl rfl rfl rfl Tryz.call73 (sp_2) Ts ?_
 rintro ⟨⟩ -
 try simp only [Ca,Na]
 refine qV (qK rfl rfl rfl rfl (kY rfl rfl rfl rfl rfl (kY rfl rfl rfl rfl rfl (qS rfl rfl rfl rfl (qS rfl rfl rfl rfl (qR (qW [1,4,5] (e':=[(1,_),(4,_),(5,_)]) rfl ?_)))))))
 refine qQ (qL (qL (qC (.q 0 (.q 1 (.done))) Kr ?_)))
 refine qK rfl rfl rfl rfl (qB rfl rfl rfl rfl rfl (b_neq _ _ _ _) ?_)
 refine kB 13 rfl (v':=.bool true) (by first | rfl | simp) ?_
 refine qR (qQ (cK rfl ?_))
 refine qL (qC (.q 0 (.q 1 (.q 2 (.done)))) Kr ?_)
 refine qK rfl rfl rfl rfl (qS rfl rfl rfl rfl (qS rfl rfl rfl rfl (qR (qW [2,3] (e':=[(2,_),(3,_)]) rfl ?_))))
 refine qQ (qJ (qN (ret2 rfl rfl rfl (()) (by first | rfl | (first | rfl | (congr 1;done) | (congr 1 <;> first | rfl | omega | (simp;done) | (simp;omega)))) (by trivial) ?_)))
 exact Tf
end Go.Ab.Rv
set_option linter.unusedVariables false
set_option linter.unusedSimpArgs false
set_option maxRecDepth 100000
namespace Go.Ab.Dj
open Go Go.Proofs Go.Ab Go.Ab.Fe Go.Ab.Vc
theorem cnew_spec:Spec Tryz.prog 24 [] [] (fun (r:Nat)=>.pointer (some ⟨r,0,none⟩)) (fun r=>True) (fun r=>[cells r 0 [.slice none 0 0]]):=by
 refine kQ (n:=3) Tryz.func24 rfl rfl rfl ?_
 intro Γ w0
 simp only [argE,Ca,Na,Zd,Nat.reduceAdd]
 refine qL (qC (.q 0 (.done)) Kr ?_)
 refine qS rfl rfl rfl rfl (qR (qQ (qL (qC (.q 0 ((.l 1 [] (.q 2 (.done))))) Kr ?_))))
 refine cC rfl rfl rfl rfl (vs:=[_]) (kV υ'125 Tryz.zeroValue125 (ps:=[(0,1)]) ⟨rfl,ζ'65,trivial⟩ rfl) ?_
 refine sP rfl rfl rfl rfl (us:=[_]) rfl ?_
 intro b2
 refine qV (qS rfl rfl rfl rfl (qR (qQ (qJ (kD rfl rfl (b2) (by first | rfl | (first | rfl | (congr 1;done) | (congr 1 <;> first | rfl | omega | (simp;done) | (simp;omega)))) (by trivial) ?_)))))
 exact Tf
theorem there_spec (b vb:Nat) (v1 v2:Value):Spec Tryz.prog 25 [.pointer (some ⟨b,0,none⟩)] [cells b 0 [.pointer (some ⟨vb,0,none⟩),v1,v2]] (fun (_:Unit)=>.bool true) (fun _=>True) (fun _=>[cells b 0 [.pointer (some ⟨vb,0,none⟩),v1,v2]]):=by
 refine kQ (n:=12) Tryz.func25 rfl rfl rfl ?_
 intro Γ w0
 simp only [argE,Ca,Na,Zd,Nat.reduceAdd]
 refine qL (qC (.q 0 (.done)) Kr ?_)
 refine qS rfl rfl rfl rfl (qR (qQ (qL (qC (.q 0 (.q 1 (.q 2 (.q 3 (.q 4 (.q 5 (.q 6 (.q 7 (.q 8 (.q 9 (.done))))))))))) Kr ?_))))
 refine qK rfl rfl rfl rfl (q_ne_nil rfl rfl rfl rfl υ'29 ?_)
 refine kB 4 rfl (v':=.bool true) rfl ?_
 refine qK rfl rfl rfl rfl (qK rfl rfl rfl rfl (qX rfl rfl rfl rfl (qG (k:=0) rfl rfl rfl rfl υ'43 rfl ζ'40 rfl ?_)))
 refine qP (j:=0) rfl rfl rfl rfl α'40 Tk Az (by rfl) ?_
 refine q_ne_nil rfl rfl rfl rfl Tryz.underlying40 ?_
 refine kB 10 rfl (v':=.bool true) rfl ?_
 refine kW rfl rfl rfl rfl rfl (qS rfl rfl rfl rfl (qR (qW [2] (e':=[(2,_)]) rfl ?_)))
 refine qQ (qJ (kD rfl rfl (()) (by first | rfl | (first | rfl | (congr 1;done) | (congr 1 <;> first | rfl | omega | (simp;done) | (simp;omega)))) (by trivial) ?_))
 exact Tf
theorem new_spec (th va vo lk:Int) (pl:List Int) (ao:Option Addr) (n c:Nat) (A:HProp) (hr:RdS A ao (pl.flatMap encZ)) (hn:pl.length=n) (hb:n≤4000000) (hok:OkS th va vo lk pl):Spec Tryz.prog 8 [.agg #[.int .i64 th,.int .i64 va,.int .i64 vo,.int .i64 lk,.slice ao n c]] [A] (fun (r:Nat × (Option Addr × Nat) × Option Addr × Nat)=>.tuple #[.pointer (some ⟨r.1,0,none⟩),.int .i64 0]) (fun r=>True) (fun r=>[A,own 1 encZ r.2.1.1 r.2.1.2 pl,own 1 encZ r.2.2.1 r.2.2.2 pl,dR r.2.1.1 r.2.1.2 r.2.2.1 r.2.2.2 r.1 (dNew th va vo lk pl)]):=by
 refine kQ (n:=36) Tryz.func8 rfl rfl rfl ?_
 intro Γ w0
 simp only [argE,Ca,Na,Zd,Nat.reduceAdd]
 refine qL (qC ((.l 0 [] (.q 1 (.q 2 (.done))))) Kr ?_)
 refine sP rfl rfl rfl rfl (us:=[_,_,_,_,_]) rfl ?_
 intro b1
 refine qV (qS rfl rfl rfl rfl (qS rfl rfl rfl rfl (qR (qQ (qL (qC (.q 0 ((.l 1 [] (.q 2 (.q 3 (.q 4 (.q 5 (.q 6 (.done))))))))) Kr ?_))))))
 refine kG rfl rfl rfl rfl α'24 ζ'24 Tk 0 (us:=[_,_,_,_,_]) Az rfl rfl ?_
 have sp_1:=begin_spec th va vo lk pl ao n c A hr hn hb hok
 refine qM rfl rfl rfl rfl rfl rfl Tryz.call23 (sp_1) Ts ?_
 rintro ⟨⟨vb,cbx,pa,pc⟩,po,poc⟩ -
 try simp only [Ca,Na]
 refine qV (qK rfl rfl rfl rfl (kY rfl rfl rfl rfl rfl (kY rfl rfl rfl rfl rfl (qS rfl rfl rfl rfl (qS rfl rfl rfl rfl (qR (qW [1,4,5] (e':=[(1,_),(4,_),(5,_)]) rfl ?_)))))))
 refine qQ (qL (qL (qC (.q 0 (.q 1 (.done))) Kr ?_)))
 refine qK rfl rfl rfl rfl (qB rfl rfl rfl rfl rfl (b_neq _ _ _ _) ?_)
 refine kB 13 rfl (v':=.bool false) (by first | rfl | simp) ?_
 refine qR (qQ (kZ rfl ?_))
 refine qF (qQ (qL (qC (.q 0 (.q 1 ((.l 2 [] (.q 3 (.done)))))) Kr ?_)))
 refine qK rfl rfl rfl rfl (cC rfl rfl rfl rfl (vs:=[_,_,_]) (kV υ'43 ω'43 (ps:=[(0,1),(1,1),(2,1)]) ⟨rfl,ζ'40,rfl,ζ'41,rfl,ζ'3,trivial⟩ rfl) ?_)
 refine sP rfl rfl rfl rfl (us:=[_,_,_]) rfl ?_
 intro b17
 refine qV (qS rfl rfl rfl rfl (qR (qW [1,6] (e':=[(1,_),(6,_)]) rfl ?_)))
 refine qQ (qL (qL ?_))
 obtain ⟨nv,hnv⟩:∃ q:Nat,va=(q:Int):=⟨va.toNat,by have:=hok.va;omega⟩
 have hvb:=hok.va
 refine s_restL_nil (res:=varA) ?_
 refine cQ (fun _ h=>sR (sz:=4) (enc:=encV) h) ?_
 refine qC (.q 0 (.q 1 (.q 2 (.done)))) Kr ?_
 refine qG (k:=1) rfl rfl rfl rfl υ'24 rfl ζ'3 rfl ?_
 refine qP (j:=1) rfl rfl rfl rfl α'3 Tk Az (by rfl) ?_
 refine kB 19 rfl (v':=.int .i64 ((nv:Nat):Int)) (by rw [hnv]) ?_
 refine qK rfl rfl rfl rfl (qR (qQ (kC ?_)))
 refine cH (α:=Nat × List P4 × Option Addr × Nat) (fun (x_:Nat × List P4 × Option Addr × Nat)=>match x_ with | (k,GV,ga,gc)=>k≤nv∧(GV.length=k)) (fun (x_:Nat × List P4 × Option Addr × Nat)=>match x_ with | (k,GV,ga,gc)=>[(20,.int .i64 ((k:Nat):Int))]) (fun (x_:Nat × List P4 × Option Addr × Nat)=>match x_ with | (k,GV,ga,gc)=>[restL varA GV (List.replicate k v0) [],cells b17 0 [.pointer (some ⟨vb,0,none⟩),.slice ga GV.length gc,.int .i64 0],own 4 encV ga gc GV]) (fun (x_:Nat × List P4 × Option Addr × Nat)=>match x_ with | (k,GV,ga,gc)=>nv - k) [6,19] (er:=[(6,_),(19,_)]) rfl (0,([]:List P4),none,0) ?_ (by exact ⟨rfl,trivial⟩) (by (try dsimp only);(try simp only [Ad,Zd]);(repeat ((with_reducible apply Z2);focus (first | (with_reducible (repeat (first | exact Z0 | apply Z1));done) | (repeat (first | exact Z0 | apply Z1)))));exact Z3) ?_
 · exact ⟨Nat.zero_le _,rfl⟩
 rintro ⟨k,GV,ga,gc⟩ ⟨hle_k,hGV⟩
 try simp only [Ca,Na]
 refine qL (qC (.q 0 (.done)) Kr ?_)
 refine qB rfl rfl rfl rfl rfl (cB _ _ _ _) ?_
 refine qR (qQ (qL ?_))
 refine qD rfl (fun hlt=>?_) (fun hlt=>?_)
 ·
  refine qF (qQ (qL (kC (kL rfl (.q 0 (.q 1 (.q 2 (.q 3 (.q 4 ((.l 5 [4] ((.l 6 [4] (.q 7 ((.l 8 [4] ((.l 9 [] (.q 10 (.q 11 ((.l 12 [] (.done))))))))))))))))))) Kr ?_))))
  refine qK rfl rfl rfl rfl (qK rfl rfl rfl rfl (qX rfl rfl rfl rfl (qG (k:=1) rfl rfl rfl rfl υ'43 rfl ζ'41 rfl ?_)))
  refine qP (j:=1) rfl rfl rfl rfl α'41 Tk Az (by rfl) ?_
  have sp_2:=cnew_spec
  refine qM rfl rfl rfl rfl rfl rfl Tryz.call24 (sp_2) Ts ?_
  rintro rb -
  try simp only [Ca,Na]
  refine qH (q:=1) rfl rfl rfl α'41 Tk Az (by rfl) ?_
  refine qV ?_
  have sp_3:=cnew_spec
  refine qM rfl rfl rfl rfl rfl rfl Tryz.call24 (sp_3) Ts ?_
  rintro wb -
  try simp only [Ca,Na]
  refine qH (q:=1) rfl rfl rfl α'41 Tk Az (by rfl) ?_
  refine qV (cC rfl rfl rfl rfl (vs:=[_,_,_,_]) (kV υ'82 ω'82 (ps:=[(0,1),(1,1),(2,1),(3,1)]) ⟨rfl,ζ'79,rfl,ζ'79,rfl,ζ'3,rfl,ζ'4,trivial⟩ rfl) ?_)
  refine cL rfl rfl rfl rfl (sQ (us:=[_,_,_,_]) υ'41 ζ'82 rfl ω'82 rfl rfl rfl) ?_
  intro b30
  refine qH (q:=1) rfl rfl rfl α'41 Tk Az (by rfl) ?_
  refine qV (sG (sz:=4) (enc:=encV) (xs:=GV) rfl rfl rfl rfl rfl υ'41 Tryz.typeInfo82 rfl rfl rfl (by decide) Tk Tk (by first | rfl | omega | (simp;done) | (simp;omega)) (ys:=[((some ⟨rb,0,none⟩:Option Addr),(some ⟨wb,0,none⟩:Option Addr),0,false)]) (sX sS) (by rfl) (by first | rfl | omega) (encV_len) (encV_one) Om (by show _*32≤_;omega) ?_)
  intro ao31 cp31
  refine qV (qX rfl rfl rfl rfl (qG (k:=1) rfl rfl rfl rfl υ'43 rfl ζ'41 rfl ?_))
  refine kH (j:=1) rfl rfl rfl rfl ζ'41 (us:=[_]) rfl rfl rfl Tk Az (by first | decide | (simp;done) | omega) ?_
  simp only [setL,List.set]
  refine qV (qR (cQ (fun _ h=>sR (sz:=1) (enc:=encU) h) ?_))
  refine s_vecF rb none 0 [] Ts ?_
  refine cQ (fun _ h=>sR (sz:=1) (enc:=encU) h) ?_
  refine s_vecF wb none 0 [] Ts ?_
  refine s_varF (some ⟨rb,0,none⟩,some ⟨wb,0,none⟩,0,false) v0 Ts rfl ?_
  refine s_restL_push ((some ⟨rb,0,none⟩,some ⟨wb,0,none⟩,0,false):P4) v0 Ts (by simp [hGV]) ?_
  rw [← List.replicate_succ']
  refine qW [6,19,20] (e':=[(6,_),(19,_),(20,_)]) rfl ?_
  refine kX (qQ (qC (.q 0 (.q 1 (.done))) Kr ?_))
  refine qB rfl rfl rfl rfl rfl (cV _ (by exact kP Om Om)) ?_
  refine qK rfl rfl rfl rfl (qR (qQ ?_))
  have hgl2:(GV++[(some ⟨rb,0,none⟩,some ⟨wb,0,none⟩,0,false)]:List P4).length=GV.length+1:=by simp
  refine cS (A:=cells b17 0 [.pointer (some ⟨vb,0,none⟩),.slice ao31 (GV.length+1) cp31,.int .i64 0]) Td ?_
  refine cQ (Γ':=cells b17 0 [.pointer (some ⟨vb,0,none⟩),.slice ao31 (GV++[(some ⟨rb,0,none⟩,some ⟨wb,0,none⟩,0,false)]:List P4).length cp31,.int .i64 0]::_) (fun _ h=>(by rw [hgl2];exact h)) ?_
  refine kJ (x:=(k,GV,ga,gc)) ((k+1,GV++[(some ⟨rb,0,none⟩,some ⟨wb,0,none⟩,0,false)],ao31,cp31)) ?_ ?_ ?_ ?_
  · try dsimp only
    exact ⟨by omega,by simp [hGV]⟩
  · show nv - (k+1) < nv - k;omega
  · exact ⟨rfl,rfl,rfl,trivial⟩
  · (try simp only [Ca,Na]);exact Tf
 refine cW (qY (qY (kK (qQ (qL (qC (.q 0 (.q 1 (.q 2 (.done)))) Kr ?_))))))
 refine qK rfl rfl rfl rfl (qS rfl rfl rfl rfl (qS rfl rfl rfl rfl (qR (qW [2,3] (e':=[(2,_),(3,_)]) rfl ?_))))
 refine qQ (qJ ?_)
 obtain rfl:k=nv:=by omega
 refine d_fold (b:=b17) (dNew th va vo lk pl) (pa:=pa) (pc:=pc) (po:=po) (poc:=poc) (vb:=vb) (va:=ga) (vc:=gc) (V:=GV) Ts (by rw [dNew,hnv,Int.toNat_natCast]) (by rw [hGV,List.length_replicate]) (by rw [hGV,List.length_replicate]) ?_
 refine ret2 rfl rfl rfl ((b17,(pa,pc),po,poc)) (by first | rfl | (first | rfl | (congr 1;done) | (congr 1 <;> first | rfl | omega | (simp;done) | (simp;omega)))) (by trivial) ?_
 exact Tf
theorem newbad_spec (th va vo lk:Int) (pl:List Int) (ao:Option Addr) (n c:Nat) (A:HProp) (hr:RdS A ao (pl.flatMap encZ)) (hn:pl.length=n) (hb:n≤4000000) (hok:¬ OkS th va vo lk pl):Spec Tryz.prog 8 [.agg #[.int .i64 th,.int .i64 va,.int .i64 vo,.int .i64 lk,.slice ao n c]] [A] (fun (_:Unit)=>.tuple #[.pointer none,.int .i64 5]) (fun _=>True) (fun _=>[A]):=by
 refine kQ (n:=36) Tryz.func8 rfl rfl rfl ?_
 intro Γ w0
 simp only [argE,Ca,Na,Zd,Nat.reduceAdd]
 refine qL (qC ((.l 0 [] (.q 1 (.q 2 (.done))))) Kr ?_)
 refine sP rfl rfl rfl rfl (us:=[_,_,_,_,_]) rfl ?_
 intro b1
 refine qV (qS rfl rfl rfl rfl (qS rfl rfl rfl rfl (qR (qQ (qL (qC (.q 0 ((.l 1 [] (.q 2 (.q 3 (.q 4 (.q 5 (.q 6 (.done))))))))) Kr ?_))))))
 refine kG rfl rfl rfl rfl α'24 ζ'24 Tk 0 (us:=[_,_,_,_,_]) Az rfl rfl ?_
 have sp_1:=beginbad_spec th va vo lk pl ao n c A hr hn hb hok
 refine qM rfl rfl rfl rfl rfl rfl Tryz.call23 (sp_1) Ts ?_
 rintro ⟨⟩ -
 try simp only [Ca,Na]
 refine qV (qK rfl rfl rfl rfl (kY rfl rfl rfl rfl rfl (kY rfl rfl rfl rfl rfl (qS rfl rfl rfl rfl (qS rfl rfl rfl rfl (qR (qW [1,4,5] (e':=[(1,_),(4,_),(5,_)]) rfl ?_)))))))
 refine qQ (qL (qL (qC (.q 0 (.q 1 (.done))) Kr ?_)))
 refine qK rfl rfl rfl rfl (qB rfl rfl rfl rfl rfl (b_neq _ _ _ _) ?_)
 refine kB 13 rfl (v':=.bool true) (by first | rfl | simp) ?_
 refine qR (qQ (cK rfl ?_))
 refine qL (qC (.q 0 (.q 1 (.q 2 (.done)))) Kr ?_)
 refine qK rfl rfl rfl rfl (qS rfl rfl rfl rfl (qS rfl rfl rfl rfl (qR (qW [2,3] (e':=[(2,_),(3,_)]) rfl ?_))))
 refine qQ (qJ (qN (ret2 rfl rfl rfl (()) (by first | rfl | (first | rfl | (congr 1;done) | (congr 1 <;> first | rfl | omega | (simp;done) | (simp;omega)))) (by trivial) ?_)))
 exact Tf
theorem len_spec (pa:Option Addr) (pc:Nat) (po:Option Addr) (poc b:Nat) (x:DS) (hx:DInv x):Spec Tryz.prog 54 [.pointer (some ⟨b,0,none⟩)] [dR pa pc po poc b x] (fun (_:Unit)=>.int .i64 x.v.ck.n) (fun _=>True) (fun _=>[dR pa pc po poc b x]):=by
 refine kQ (n:=14) Tryz.func54 rfl rfl rfl ?_
 intro Γ w0
 simp only [argE,Ca,Na,Zd,Nat.reduceAdd]
 refine qL (qC (.q 0 (.done)) Kr ?_)
 refine qS rfl rfl rfl rfl (qR (qQ (qL (qL (cS (A:=dR pa pc po poc b x) Tk ?_)))))
 refine d_open fun vb va vc V hV=>?_
 refine qC (.q 0 ((.l 1 [] (.q 2 (.done))))) Kr ?_
 refine qK rfl rfl rfl rfl ?_
 have sp_1:=there_spec b vb (.slice va x.vs.length vc) (.int .i64 x.cost)
 refine qM rfl rfl rfl rfl rfl rfl κ'25 (sp_1) Ts ?_
 rintro ⟨⟩ -
 try simp only [Ca,Na]
 refine qV (sY rfl rfl rfl rfl ?_)
 refine kB 5 rfl (v':=.bool false) rfl ?_
 refine qR (qQ (kZ rfl ?_))
 refine qF (qQ (qL (cS (A:=vsR pa pc po poc vb x.v) Tk ?_)))
 refine vs_open fun cb m1 m2 m3 m4 F1 F2 F3 F4=>?_
 refine qC (.q 0 (.q 1 (.q 2 (.q 3 (.q 4 (.q 5 (.q 6 ((.l 7 [] (.q 8 (.done))))))))))) Kr ?_
 refine qK rfl rfl rfl rfl (qX rfl rfl rfl rfl (qG (k:=0) rfl rfl rfl rfl υ'43 rfl ζ'40 rfl ?_))
 refine qP (j:=0) rfl rfl rfl rfl α'40 Tk Az (by rfl) ?_
 refine qX rfl rfl rfl rfl (qG (k:=0) rfl rfl rfl rfl υ'87 rfl ζ'83 rfl ?_)
 refine qP (j:=0) rfl rfl rfl rfl α'83 Tk Az (by rfl) ?_
 have sp_2:=Fe.len_spec pa pc cb x.v.ck
 refine qM rfl rfl rfl rfl rfl rfl κ'29 (sp_2) Ts ?_
 rintro ⟨⟩ -
 try simp only [Ca,Na]
 refine qV (qS rfl rfl rfl rfl (qR (qW [2] (e':=[(2,_)]) rfl ?_)))
 refine qQ (qJ (vs_fold (b:=vb) x.v (pa:=pa) (pc:=pc) (po:=po) (poc:=poc) (cb:=cb) (m1:=m1) (m2:=m2) (m3:=m3) (m4:=m4) Ts (by rfl) (by rfl) ?_))
 refine d_fold (b:=b) x (pa:=pa) (pc:=pc) (po:=po) (poc:=poc) (vb:=vb) (va:=va) (vc:=vc) (V:=V) Ts (by rfl) (by rfl) (by first | exact hV | simp) ?_
 refine kD rfl rfl (()) (by first | rfl | (first | rfl | (congr 1;done) | (congr 1 <;> first | rfl | omega | (simp;done) | (simp;omega)))) (by trivial) ?_
 exact Tf
theorem cost_spec (pa:Option Addr) (pc:Nat) (po:Option Addr) (poc b:Nat) (x:DS) (hx:DInv x):Spec Tryz.prog 56 [.pointer (some ⟨b,0,none⟩)] [dR pa pc po poc b x] (fun (_:Unit)=>.int .i64 x.cost) (fun _=>True) (fun _=>[dR pa pc po poc b x]):=by
 refine kQ (n:=10) Tryz.func56 rfl rfl rfl ?_
 intro Γ w0
 simp only [argE,Ca,Na,Zd,Nat.reduceAdd]
 refine qL (qC (.q 0 (.done)) Kr ?_)
 refine qS rfl rfl rfl rfl (qR (qQ (qL (qL (cS (A:=dR pa pc po poc b x) Tk ?_)))))
 refine d_open fun vb va vc V hV=>?_
 refine qC (.q 0 ((.l 1 [] (.q 2 (.done))))) Kr ?_
 refine qK rfl rfl rfl rfl ?_
 have sp_1:=there_spec b vb (.slice va x.vs.length vc) (.int .i64 x.cost)
 refine qM rfl rfl rfl rfl rfl rfl κ'25 (sp_1) Ts ?_
 rintro ⟨⟩ -
 try simp only [Ca,Na]
 refine qV (sY rfl rfl rfl rfl ?_)
 refine kB 5 rfl (v':=.bool false) rfl ?_
 refine qR (qQ (kZ rfl ?_))
 refine qF (qQ (qL (qC (.q 0 (.q 1 (.q 2 (.q 3 (.q 4 (.done)))))) Kr ?_)))
 refine qK rfl rfl rfl rfl (qX rfl rfl rfl rfl (qG (k:=2) rfl rfl rfl rfl υ'43 rfl ζ'3 rfl ?_))
 refine qP (j:=2) rfl rfl rfl rfl α'3 Tk Az (by rfl) ?_
 refine qS rfl rfl rfl rfl (qR (qW [2] (e':=[(2,_)]) rfl ?_))
 refine qQ (qJ (d_fold (b:=b) x (pa:=pa) (pc:=pc) (po:=po) (poc:=poc) (vb:=vb) (va:=va) (vc:=vc) (V:=V) Ts (by rfl) (by rfl) (by first | exact hV | simp) ?_))
 refine kD rfl rfl (()) (by first | rfl | (first | rfl | (congr 1;done) | (congr 1 <;> first | rfl | omega | (simp;done) | (simp;omega)))) (by trivial) ?_
 exact Tf
theorem vector_some (pa:Option Addr) (pc:Nat) (po:Option Addr) (poc b:Nat) (x:DS) (hx:DInv x) (t:Int) (l:List Int) (hth:x.v.th t=some l):Spec Tryz.prog 15 [.pointer (some ⟨b,0,none⟩),.int .i64 t] [dR pa pc po poc b x] (fun (r:Option Addr × Nat)=>.slice r.1 l.length r.2) (fun r=>True) (fun r=>[dR pa pc po poc b x,own 1 encU r.1 r.2 l]):=by
 refine kQ (n:=18) Tryz.func15 rfl rfl rfl ?_
 intro Γ w0
 simp only [argE,Ca,Na,Zd,Nat.reduceAdd]
 have hlc:=(hx.v.thc _ _ hth).len
 refine qL (qC (.q 0 (.done)) Kr ?_)
 refine qS rfl rfl rfl rfl (qR (qQ (qL (qL (cS (A:=dR pa pc po poc b x) Tk ?_)))))
 refine d_open fun vb va vc V hV=>?_
 refine qC (.q 0 ((.l 1 [] (.q 2 (.done))))) Kr ?_
 refine qK rfl rfl rfl rfl ?_
 have sp_1:=there_spec b vb (.slice va x.vs.length vc) (.int .i64 x.cost)
 refine qM rfl rfl rfl rfl rfl rfl κ'25 (sp_1) Ts ?_
 rintro ⟨⟩ -
 try simp only [Ca,Na]
 refine qV (sY rfl rfl rfl rfl ?_)
 refine kB 7 rfl (v':=.bool false) rfl ?_
 refine qR (qQ (kZ rfl ?_))
 refine qF (qQ (qL (cS (A:=vsR pa pc po poc vb x.v) Tk ?_)))
 refine vs_open fun cb m1 m2 m3 m4 F1 F2 F3 F4=>?_
 refine s_rest_take (F:=F1) (T:=x.v.th) (S:=[]) t Tk (by simp) hth fun tv htF=>?_
 refine s_vec Tk fun tb ta tc hta=>?_
 subst hta
 refine qC (.q 0 (.q 1 (.q 2 (.q 3 (.q 4 (.q 5 (.q 6 (.q 7 (.q 8 ((.l 9 [] (.q 10 (.done))))))))))))) Kr ?_
 refine qK rfl rfl rfl rfl (qX rfl rfl rfl rfl (qG (k:=0) rfl rfl rfl rfl υ'43 rfl ζ'40 rfl ?_))
 refine qP (j:=0) rfl rfl rfl rfl α'40 Tk Az (by rfl) ?_
 refine qX rfl rfl rfl rfl (qG (k:=2) rfl rfl rfl rfl υ'87 rfl ζ'84 rfl ?_)
 refine qP (j:=2) rfl rfl rfl rfl α'84 Tk Az (by rfl) ?_
 refine qK rfl rfl rfl rfl (rQ (ek:=ekZ) (ev1:=evA) (F:=F1) (m:=m1) (k:=t) none rfl rfl rfl rfl rfl υ'84 (cM υ'3) ω'79 Tk ?_)
 refine kB 16 rfl (v':=.pointer (some ⟨tb,0,none⟩)) (by rw [htF];rfl) ?_
 have sp_2:=Vc.list_spec tb l ta l.length tc (by rfl) Om
 refine qM rfl rfl rfl rfl rfl rfl κ'26 (sp_2) Ts ?_
 rintro ⟨qa,qc⟩ -
 try simp only [Ca,Na]
 refine qV (qS rfl rfl rfl rfl (qR (qW [4] (e':=[(4,_)]) rfl ?_)))
 refine qQ (qJ (s_vecF tb ta tc l Ts ?_))
 refine cN (F:=F1) (T:=x.v.th) (S:=[]) t F1 x.v.th Ts (by simp) htF (fun _ _ _=>rfl) hth (fun _ _ _=>rfl) ?_
 refine vs_fold (b:=vb) x.v (pa:=pa) (pc:=pc) (po:=po) (poc:=poc) (cb:=cb) (m1:=m1) (m2:=m2) (m3:=m3) (m4:=m4) Ts (by rfl) (by rfl) ?_
 refine d_fold (b:=b) x (pa:=pa) (pc:=pc) (po:=po) (poc:=poc) (vb:=vb) (va:=va) (vc:=vc) (V:=V) Ts (by rfl) (by rfl) (by first | exact hV | simp) ?_
 refine kD rfl rfl ((qa,qc)) (by first | rfl | (first | rfl | (congr 1;done) | (congr 1 <;> first | rfl | omega | (simp;done) | (simp;omega)))) (by trivial) ?_
 exact Tf
theorem list_nil:Spec Tryz.prog 26 [.pointer none] [] (fun (_:Unit)=>.slice none 0 0) (fun _=>True) (fun _=>[]):=by
 refine kQ (n:=10) Tryz.func26 rfl rfl rfl ?_
 intro Γ w0
 simp only [argE,Ca,Na,Zd,Nat.reduceAdd]
 refine qL (qC (.q 0 (.done)) Kr ?_)
 refine qS rfl rfl rfl rfl (qR (qQ (qL (qL (qC (.q 0 (.q 1 (.done))) Kr ?_)))))
 refine qK rfl rfl rfl rfl (cG rfl rfl rfl rfl υ'79 ?_)
 refine kB 4 rfl (v':=.bool true) rfl ?_
 refine qR (qQ (cK rfl ?_))
 refine qL (qC (.q 0 (.done)) Kr ?_)
 refine qS rfl rfl rfl rfl (qR (qQ (qJ (qN (kD rfl rfl (()) (by first | rfl | (first | rfl | (congr 1;done) | (congr 1 <;> first | rfl | omega | (simp;done) | (simp;omega)))) (by trivial) ?_)))))
 exact Tf
theorem vector_none (pa:Option Addr) (pc:Nat) (po:Option Addr) (poc b:Nat) (x:DS) (hx:DInv x) (t:Int) (hth:x.v.th t=none):Spec Tryz.prog 15 [.pointer (some ⟨b,0,none⟩),.int .i64 t] [dR pa pc po poc b x] (fun (_:Unit)=>.slice none 0 0) (fun _=>True) (fun _=>[dR pa pc po poc b x]):=by
 refine kQ (n:=18) Tryz.func15 rfl rfl rfl ?_
 intro Γ w0
 simp only [argE,Ca,Na,Zd,Nat.reduceAdd]
 refine qL (qC (.q 0 (.done)) Kr ?_)
 refine qS rfl rfl rfl rfl (qR (qQ (qL (qL (cS (A:=dR pa pc po poc b x) Tk ?_)))))
 refine d_open fun vb va vc V hV=>?_
 refine qC (.q 0 ((.l 1 [] (.q 2 (.done))))) Kr ?_
 refine qK rfl rfl rfl rfl ?_
 have sp_1:=there_spec b vb (.slice va x.vs.length vc) (.int .i64 x.cost)
 refine qM rfl rfl rfl rfl rfl rfl κ'25 (sp_1) Ts ?_
 rintro ⟨⟩ -
 try simp only [Ca,Na]
 refine qV (sY rfl rfl rfl rfl ?_)
 refine kB 7 rfl (v':=.bool false) rfl ?_
 refine qR (qQ (kZ rfl ?_))
 refine qF (qQ (qL (cS (A:=vsR pa pc po poc vb x.v) Tk ?_)))
 refine vs_open fun cb m1 m2 m3 m4 F1 F2 F3 F4=>?_
 refine s_rest_miss (F:=F1) (T:=x.v.th) (S:=[]) t Tk (by simp) hth fun htF=>?_
 refine qC (.q 0 (.q 1 (.q 2 (.q 3 (.q 4 (.q 5 (.q 6 (.q 7 (.q 8 ((.l 9 [] (.q 10 (.done))))))))))))) Kr ?_
 refine qK rfl rfl rfl rfl (qX rfl rfl rfl rfl (qG (k:=0) rfl rfl rfl rfl υ'43 rfl ζ'40 rfl ?_))
 refine qP (j:=0) rfl rfl rfl rfl α'40 Tk Az (by rfl) ?_
 refine qX rfl rfl rfl rfl (qG (k:=2) rfl rfl rfl rfl υ'87 rfl ζ'84 rfl ?_)
 refine qP (j:=2) rfl rfl rfl rfl α'84 Tk Az (by rfl) ?_
 refine qK rfl rfl rfl rfl (rQ (ek:=ekZ) (ev1:=evA) (F:=F1) (m:=m1) (k:=t) none rfl rfl rfl rfl rfl υ'84 (cM υ'3) ω'79 Tk ?_)
 refine kB 16 rfl (v':=.pointer none) (by rw [htF];rfl) ?_
 refine qM rfl rfl rfl rfl rfl rfl κ'26 (list_nil) Ts ?_
 rintro ⟨⟩ -
 try simp only [Ca,Na]
 refine qV (qS rfl rfl rfl rfl (qR (qW [4] (e':=[(4,_)]) rfl ?_)))
 refine qQ (qJ (s_rest_none (F:=F1) (T:=x.v.th) (S:=[]) t F1 x.v.th Tk htF (fun _ _ _=>rfl) hth (fun _ _ _=>rfl) ?_))
 refine vs_fold (b:=vb) x.v (pa:=pa) (pc:=pc) (po:=po) (poc:=poc) (cb:=cb) (m1:=m1) (m2:=m2) (m3:=m3) (m4:=m4) Ts (by rfl) (by rfl) ?_
 refine d_fold (b:=b) x (pa:=pa) (pc:=pc) (po:=po) (poc:=poc) (vb:=vb) (va:=va) (vc:=vc) (V:=V) Ts (by rfl) (by rfl) (by first | exact hV | simp) ?_
 refine kD rfl rfl (()) (by first | rfl | (first | rfl | (congr 1;done) | (congr 1 <;> first | rfl | omega | (simp;done) | (simp;omega)))) (by trivial) ?_
 exact Tf
theorem vector_spec (pa:Option Addr) (pc:Nat) (po:Option Addr) (poc b:Nat) (x:DS) (hx:DInv x) (t:Int):Spec Tryz.prog 15 [.pointer (some ⟨b,0,none⟩),.int .i64 t] [dR pa pc po poc b x] (fun (r:Option Addr × Nat)=>.slice r.1 (thF x.v t).length r.2) (fun r=>True) (fun r=>[dR pa pc po poc b x,own 1 encU r.1 r.2 (thF x.v t)]):=by
  cases hth:x.v.th t with
  | some l=>rw [thF_eq hth];exact vector_some pa pc po poc b x hx t l hth
  | none =>
    rw [show thF x.v t=[] from by rw [thF,hth];rfl]
    exact (vector_none pa pc po poc b x hx t hth).conseq (fun _ _ s=>s) (fun _ _=>⟨(none,0),rfl,trivial,fun Γ hp s=>(by
      have h:=sR (sz:=1) (enc:=encU) s
      exact h.swap)⟩)
theorem at_spec (b vb m vc:Nat) (va:Option Addr) (v2:Value) (V:List P4) (hm:V.length=m) (i:Nat) (v:P4) (hv:V[i]?=some v):Spec Tryz.prog 91 [.pointer (some ⟨b,0,none⟩),.int .i64 ((i:Nat):Int)] [cells b 0 [.pointer (some ⟨vb,0,none⟩),.slice va m vc,v2],own 4 encV va vc V] (fun (r:Nat × Nat)=>.pointer (some ⟨r.1,r.2+i*4,none⟩)) (fun r=>va=some ⟨r.1,r.2,none⟩) (fun r=>[cells b 0 [.pointer (some ⟨vb,0,none⟩),.slice va m vc,v2],own 4 encV va vc V]):=by
 refine kQ (n:=27) Tryz.func91 rfl rfl rfl ?_
 intro Γ w0
 simp only [argE,Ca,Na,Zd,Nat.reduceAdd]
 have hil:=(List.getElem?_eq_some_iff.1 hv).1
 refine qL (qC (.q 0 (.done)) Kr ?_)
 refine qS rfl rfl rfl rfl (qR (qQ (qL (qL (qC (.q 0 ((.l 1 [] (.q 2 (.q 3 (.q 4 (.q 5 (.q 6 (.q 7 (.q 8 (.q 9 (.q 10 (.q 11 (.q 12 (.q 13 (.q 14 (.q 15 (.done)))))))))))))))))) Kr ?_)))))
 refine qK rfl rfl rfl rfl ?_
 have sp_1:=there_spec b vb (.slice va m vc) v2
 refine qM rfl rfl rfl rfl rfl rfl κ'25 (sp_1) Ts ?_
 rintro ⟨⟩ -
 try simp only [Ca,Na]
 refine qV (sY rfl rfl rfl rfl ?_)
 refine kB 7 rfl (v':=.bool false) rfl ?_
 refine qK rfl rfl rfl rfl (qK rfl rfl rfl rfl (qB rfl rfl rfl rfl rfl (cB _ _ _ _) ?_))
 refine kN rfl rfl rfl rfl rfl (qK rfl rfl rfl rfl ?_)
 refine cF 12 rfl (fun g_2=>by exfalso;omega) (fun g_2=>?_)
 refine qK rfl rfl rfl rfl (qK rfl rfl rfl rfl (qX rfl rfl rfl rfl (qG (k:=1) rfl rfl rfl rfl υ'43 rfl ζ'41 rfl ?_)))
 refine qP (j:=1) rfl rfl rfl rfl α'41 Tk Az (by rfl) ?_
 refine cJ rfl rfl rfl rfl υ'41 ?_
 refine qB rfl rfl rfl rfl rfl (b_geq _ _ _ _) ?_
 refine kN rfl rfl rfl rfl rfl (qR (qW [0,1,20] (e':=[(0,_),(1,_),(20,_)]) rfl ?_))
 refine qQ ?_
 refine qD rfl (fun hg=>by exfalso;first | omega | (simp at hg;omega)) (fun hg=>?_)
 refine qF (qQ (qL (qC (.q 0 (.q 1 (.q 2 (.q 3 (.q 4 (.q 5 (.q 6 (.done)))))))) Kr ?_)))
 refine qK rfl rfl rfl rfl (qX rfl rfl rfl rfl (qG (k:=1) rfl rfl rfl rfl υ'43 rfl ζ'41 rfl ?_))
 refine qP (j:=1) rfl rfl rfl rfl α'41 Tk Az (by rfl) ?_
 refine qK rfl rfl rfl rfl (kF (sz:=3) (k:=i) (enc:=encV) (xs:=V) rfl rfl rfl rfl rfl υ'41 ζ'82 hv (by first | rfl | omega) Om Tk ?_)
 intro ib26 io26 ha26 hl26 hc26
 refine qS rfl rfl rfl rfl (qR (qW [4] (e':=[(4,_)]) rfl ?_))
 refine qQ (qJ (kD rfl rfl ((ib26,io26)) (by first | rfl | (first | rfl | (congr 1;done) | (congr 1 <;> first | rfl | omega | (simp;done) | (simp;omega)))) (by exact ha26) ?_))
 exact Tf
theorem atno_spec (b vb m vc:Nat) (va:Option Addr) (v2:Value) (V:List P4) (hm:V.length=m) (z:Int) (hz:z < 0∨(m:Int)≤z):Spec Tryz.prog 91 [.pointer (some ⟨b,0,none⟩),.int .i64 z] [cells b 0 [.pointer (some ⟨vb,0,none⟩),.slice va m vc,v2],own 4 encV va vc V] (fun (_:Unit)=>.pointer none) (fun _=>True) (fun _=>[cells b 0 [.pointer (some ⟨vb,0,none⟩),.slice va m vc,v2],own 4 encV va vc V]):=by
 refine kQ (n:=27) Tryz.func91 rfl rfl rfl ?_
 intro Γ w0
 simp only [argE,Ca,Na,Zd,Nat.reduceAdd]
 refine qL (qC (.q 0 (.done)) Kr ?_)
 refine qS rfl rfl rfl rfl (qR (qQ (qL (qL (qC (.q 0 ((.l 1 [] (.q 2 (.q 3 (.q 4 (.q 5 (.q 6 (.q 7 (.q 8 (.q 9 (.q 10 (.q 11 (.q 12 (.q 13 (.q 14 (.q 15 (.done)))))))))))))))))) Kr ?_)))))
 refine qK rfl rfl rfl rfl ?_
 have sp_1:=there_spec b vb (.slice va m vc) v2
 refine qM rfl rfl rfl rfl rfl rfl κ'25 (sp_1) Ts ?_
 rintro ⟨⟩ -
 try simp only [Ca,Na]
 refine qV (sY rfl rfl rfl rfl ?_)
 refine kB 7 rfl (v':=.bool false) rfl ?_
 refine qK rfl rfl rfl rfl (qK rfl rfl rfl rfl (qB rfl rfl rfl rfl rfl (cB _ _ _ _) ?_))
 refine kN rfl rfl rfl rfl rfl (qK rfl rfl rfl rfl ?_)
 refine cF 12 rfl (fun hz1=>?_) (fun hz1=>?_)
 ·
  refine qZ rfl rfl rfl rfl (qZ rfl rfl rfl rfl (qZ rfl rfl rfl rfl (qZ rfl rfl rfl rfl (qZ rfl rfl rfl rfl (qZ rfl rfl rfl rfl (qZ rfl rfl rfl rfl (kW rfl rfl rfl rfl rfl (qR ?_))))))))
  refine qW [0,1,20] (e':=[(0,_),(1,_),(20,_)]) rfl ?_
  refine qQ (cK rfl ?_)
  refine qL (qC (.q 0 (.done)) Kr ?_)
  refine qS rfl rfl rfl rfl (qR (qQ (qJ (qN (kD rfl rfl (()) (by first | rfl | (first | rfl | (congr 1;done) | (congr 1 <;> first | rfl | omega | (simp;done) | (simp;omega)))) (by trivial) ?_)))))
  exact Tf
 refine qK rfl rfl rfl rfl (qK rfl rfl rfl rfl (qX rfl rfl rfl rfl (qG (k:=1) rfl rfl rfl rfl υ'43 rfl ζ'41 rfl ?_)))
 refine qP (j:=1) rfl rfl rfl rfl α'41 Tk Az (by rfl) ?_
 refine cJ rfl rfl rfl rfl υ'41 ?_
 refine qB rfl rfl rfl rfl rfl (b_geq _ _ _ _) ?_
 refine kN rfl rfl rfl rfl rfl (qR (qW [0,1,20] (e':=[(0,_),(1,_),(20,_)]) rfl ?_))
 refine qQ ?_
 refine qD rfl (fun hg=>?_) (fun hg=>by exfalso;omega)
 refine qL (qC (.q 0 (.done)) Kr ?_)
 refine qS rfl rfl rfl rfl (qR (qQ (qJ (qN (kD rfl rfl (()) (by first | rfl | (first | rfl | (congr 1;done) | (congr 1 <;> first | rfl | omega | (simp;done) | (simp;omega)))) (by trivial) ?_)))))
 exact Tf
end Go.Ab.Dj
set_option linter.unusedVariables false
set_option linter.unusedSimpArgs false
set_option maxRecDepth 100000
namespace Go.Ab.Dj
open Go Go.Proofs Go.Ab Go.Ab.Fe Go.Ab.Vc
/-- What is kept of a variable, if there is one. -/
def wF (x:DS) (z:Int):Option V4:=if 0≤z then x.vs[z.toNat]? else none
theorem wF_nat {x:DS} (i:Nat):wF x (i:Int)=x.vs[i]?:=by rw [wF,if_pos Om,Int.toNat_natCast]
theorem wF_none {x:DS} {z:Int} (h:z < 0∨(x.vs.length:Int)≤z):wF x z=none:=by
  unfold wF;split
  · exact List.getElem?_eq_none Om
  · rfl
theorem wF_cases (x:DS) (z:Int):(∃ (i:Nat) (w:V4),z=i∧x.vs[i]?=some w)∨(z < 0∨(x.vs.length:Int)≤z):=by
  by_cases h:0≤z∧z < x.vs.length
  · obtain ⟨w,hw⟩:=cR (l:=x.vs) (i:=z.toNat) Om
    exact .inl ⟨z.toNat,w,by omega,hw⟩
  · exact .inr Om
/-- The flags, by rising variables. -/
def flF (vs:List V4):List (Int × Int):=(vs.zipIdx.filter (fun p=>p.1.2.2.2)).map fun p=>((p.2:Int),p.1.2.2.1)
def fgF (w:Option V4):Int:=(w.map (·.2.2.1)).getD 0
def fdF (w:Option V4):Bool:=(w.map (·.2.2.2)).getD false
def rdsF (w:Option V4):List Int:=(w.map (·.1)).getD []
def wrsF (w:Option V4):List Int:=(w.map (·.2.1)).getD []
theorem flF_next {vs:List V4} {i:Nat} {w:V4} (h:vs[i]?=some w):flF (vs.take (i+1))=flF (vs.take i)++(if w.2.2.2 then [((i:Int),w.2.2.1)] else []):=by
  have hi:=(List.getElem?_eq_some_iff.1 h).1
  unfold flF
  rw [List.take_add_one,h,List.zipIdx_append,List.filter_append,List.map_append,List.length_take,Nat.min_eq_left Om]
  congr 1
  cases hw:w.2.2.2 <;> simp [hw]
theorem flF_len (vs:List V4):(flF vs).length≤vs.length:=by
  unfold flF
  rw [List.length_map]
  exact Nat.le_trans (List.length_filter_le _ _) (by simp)
theorem flagged_some (pa:Option Addr) (pc:Nat) (po:Option Addr) (poc b:Nat) (x:DS) (hx:DInv x) (i:Nat) (w:V4) (hw:x.vs[i]?=some w):Spec Tryz.prog 46 [.pointer (some ⟨b,0,none⟩),.int .i64 ((i:Nat):Int)] [dR pa pc po poc b x] (fun (_:Unit)=>.tuple #[.int .i64 (fgF (wF x (i:Int))),.bool (fdF (wF x (i:Int)))]) (fun _=>True) (fun _=>[dR pa pc po poc b x]):=by
 refine kQ (n:=20) Tryz.func46 rfl rfl rfl ?_
 intro Γ w0
 simp only [argE,Ca,Na,Zd,Nat.reduceAdd]
 refine qL (qC (.q 0 (.q 1 (.done))) Kr ?_)
 refine qS rfl rfl rfl rfl (qS rfl rfl rfl rfl (qR (qQ (qL (cS (A:=dR pa pc po poc b x) Tk ?_)))))
 refine d_open fun vb va vc V hV=>?_
 refine cZ (res:=varA) (V:=V) (Y:=x.vs) (S:=[]) i Tk (by simp) hw fun v_ hv=>?_
 obtain ⟨va_,vb_,fl,fg⟩:=v_
 refine s_var Tk fun hf=>?_
 refine s_vec Tk fun rb ra rc hra_=>?_
 simp only at hra_
 subst hra_
 refine s_vec Td fun wb wa wc hwa_=>?_
 simp only at hwa_
 subst hwa_
 simp only at hf
 refine qC (.q 0 (.q 1 ((.l 2 [] (.q 3 (.done)))))) Kr ?_
 refine qK rfl rfl rfl rfl (qK rfl rfl rfl rfl ?_)
 have sp_1:=at_spec b vb x.vs.length vc va (.int .i64 x.cost) V (by exact hV) i (some ⟨rb,0,none⟩,some ⟨wb,0,none⟩,fl,fg) hv
 refine qM rfl rfl rfl rfl rfl rfl κ'91 (sp_1) Ts ?_
 rintro ⟨ab,ao_⟩ haa
 try simp only [Ca,Na]
 refine qV (qS rfl rfl rfl rfl (qR (qW [6] (e':=[(6,_)]) rfl ?_)))
 refine qQ (qL (qL (qC (.q 0 (.q 1 (.done))) Kr ?_)))
 refine qK rfl rfl rfl rfl (cG rfl rfl rfl rfl υ'91 ?_)
 refine kB 11 rfl (v':=.bool false) rfl ?_
 refine qR (qQ (kZ rfl ?_))
 refine qF (qQ (qL (kL rfl (.q 0 (.q 1 (.q 2 (.q 3 (.q 4 (.q 5 (.q 6 (.q 7 (.q 8 (.q 9 (.done))))))))))) Kr ?_)))
 refine qK rfl rfl rfl rfl (qX rfl rfl rfl rfl (qG (k:=2) rfl rfl rfl rfl υ'82 rfl ζ'3 rfl ?_))
 refine kS (v:=(.int .i64 fl)) (j:=2) (k':=i) (enc:=encV) (off:=ao_) rfl rfl rfl rfl α'3 haa encV_len hv Tk (by first | rfl | exact (Ad _).symm | omega) (by rfl) ?_
 refine qK rfl rfl rfl rfl (qX rfl rfl rfl rfl (qG (k:=3) rfl rfl rfl rfl υ'82 rfl ζ'4 rfl ?_))
 refine kS (v:=(.bool fg)) (j:=3) (k':=i) (enc:=encV) (off:=ao_) rfl rfl rfl rfl α'4 haa encV_len hv Tk (by first | rfl | exact (Ad _).symm | omega) (by rfl) ?_
 refine qS rfl rfl rfl rfl (qS rfl rfl rfl rfl (qR (qW [4,5] (e':=[(4,_),(5,_)]) rfl ?_)))
 refine qQ (qJ (s_vecF rb ra rc w.1 Ts ?_))
 refine s_vecF wb wa wc w.2.1 Ts ?_
 refine s_varF (some ⟨rb,0,none⟩,some ⟨wb,0,none⟩,fl,fg) w Ts hf ?_
 refine cY (res:=varA) (V:=V) (Y:=x.vs) (S:=[]) i Ts (by simp) hv hw ?_
 refine d_fold (b:=b) x (pa:=pa) (pc:=pc) (po:=po) (poc:=poc) (vb:=vb) (va:=va) (vc:=vc) (V:=V) Ts (by rfl) (by rfl) (by first | exact hV | simp) ?_
 refine ret2 rfl rfl rfl (()) (by rw [wF_nat,hw,fgF,fdF,Option.map_some,Option.map_some,Option.getD_some,Option.getD_some,← hf]) (by trivial) ?_
 exact Tf
theorem flagged_none (pa:Option Addr) (pc:Nat) (po:Option Addr) (poc b:Nat) (x:DS) (hx:DInv x) (z:Int) (hz:z < 0∨(x.vs.length:Int)≤z):Spec Tryz.prog 46 [.pointer (some ⟨b,0,none⟩),.int .i64 z] [dR pa pc po poc b x] (fun (_:Unit)=>.tuple #[.int .i64 (fgF (wF x z)),.bool (fdF (wF x z))]) (fun _=>True) (fun _=>[dR pa pc po poc b x]):=by
 refine kQ (n:=20) Tryz.func46 rfl rfl rfl ?_
 intro Γ w0
 simp only [argE,Ca,Na,Zd,Nat.reduceAdd]
 refine qL (qC (.q 0 (.q 1 (.done))) Kr ?_)
 refine qS rfl rfl rfl rfl (qS rfl rfl rfl rfl (qR (qQ (qL (cS (A:=dR pa pc po poc b x) Tk ?_)))))
 refine d_open fun vb va vc V hV=>?_
 refine qC (.q 0 (.q 1 ((.l 2 [] (.q 3 (.done)))))) Kr ?_
 refine qK rfl rfl rfl rfl (qK rfl rfl rfl rfl ?_)
 have sp_1:=atno_spec b vb x.vs.length vc va (.int .i64 x.cost) V (by exact hV) z (by exact hz)
 refine qM rfl rfl rfl rfl rfl rfl κ'91 (sp_1) Ts ?_
 rintro ⟨⟩ -
 try simp only [Ca,Na]
 refine qV (qS rfl rfl rfl rfl (qR (qW [6] (e':=[(6,_)]) rfl ?_)))
 refine qQ (qL (qL (qC (.q 0 (.q 1 (.done))) Kr ?_)))
 refine qK rfl rfl rfl rfl (cG rfl rfl rfl rfl υ'91 ?_)
 refine kB 11 rfl (v':=.bool true) rfl ?_
 refine qR (qQ (cK rfl ?_))
 refine qL (qC (.q 0 (.q 1 (.done))) Kr ?_)
 refine qS rfl rfl rfl rfl (qS rfl rfl rfl rfl (qR (qQ (qJ (qN (d_fold (b:=b) x (pa:=pa) (pc:=pc) (po:=po) (poc:=poc) (vb:=vb) (va:=va) (vc:=vc) (V:=V) Ts (by rfl) (by rfl) (by first | exact hV | simp) ?_))))))
 refine ret2 rfl rfl rfl (()) (by rw [wF_none hz];rfl) (by trivial) ?_
 exact Tf
theorem flagged_spec (pa:Option Addr) (pc:Nat) (po:Option Addr) (poc b:Nat) (x:DS) (hx:DInv x) (z:Int):Spec Tryz.prog 46 [.pointer (some ⟨b,0,none⟩),.int .i64 z] [dR pa pc po poc b x] (fun (_:Unit)=>.tuple #[.int .i64 (fgF (wF x z)),.bool (fdF (wF x z))]) (fun _=>True) (fun _=>[dR pa pc po poc b x]):=by
  rcases wF_cases x z with ⟨i,w,rfl,hw⟩ | hz
  · exact flagged_some pa pc po poc b x hx i w hw
  · exact flagged_none pa pc po poc b x hx z hz
theorem reads_some (pa:Option Addr) (pc:Nat) (po:Option Addr) (poc b:Nat) (x:DS) (hx:DInv x) (i:Nat) (w:V4) (hw:x.vs[i]?=some w):Spec Tryz.prog 48 [.pointer (some ⟨b,0,none⟩),.int .i64 ((i:Nat):Int)] [dR pa pc po poc b x] (fun (r:Option Addr × Nat)=>.tuple #[.slice r.1 (rdsF (wF x (i:Int))).length r.2,.bool (wF x (i:Int)).isSome]) (fun r=>True) (fun r=>[dR pa pc po poc b x,own 1 encU r.1 r.2 (rdsF (wF x (i:Int)))]):=by
 refine kQ (n:=17) Tryz.func48 rfl rfl rfl ?_
 intro Γ w0
 simp only [argE,Ca,Na,Zd,Nat.reduceAdd]
 have hwc:=hx.vs w (List.mem_of_getElem? hw)
 have hl_:=hwc.1.len
 refine qL (qC (.q 0 (.q 1 (.done))) Kr ?_)
 refine qS rfl rfl rfl rfl (qS rfl rfl rfl rfl (qR (qQ (qL (cS (A:=dR pa pc po poc b x) Tk ?_)))))
 refine d_open fun vb va vc V hV=>?_
 refine cZ (res:=varA) (V:=V) (Y:=x.vs) (S:=[]) i Tk (by simp) hw fun v_ hv=>?_
 obtain ⟨va_,vb_,fl,fg⟩:=v_
 refine s_var Tk fun hf=>?_
 refine s_vec Tk fun rb ra rc hra_=>?_
 simp only at hra_
 subst hra_
 refine s_vec Td fun wb wa wc hwa_=>?_
 simp only at hwa_
 subst hwa_
 simp only at hf
 refine qC (.q 0 (.q 1 ((.l 2 [] (.q 3 (.done)))))) Kr ?_
 refine qK rfl rfl rfl rfl (qK rfl rfl rfl rfl ?_)
 have sp_1:=at_spec b vb x.vs.length vc va (.int .i64 x.cost) V (by exact hV) i (some ⟨rb,0,none⟩,some ⟨wb,0,none⟩,fl,fg) hv
 refine qM rfl rfl rfl rfl rfl rfl κ'91 (sp_1) Ts ?_
 rintro ⟨ab,ao_⟩ haa
 try simp only [Ca,Na]
 refine qV (qS rfl rfl rfl rfl (qR (qW [6] (e':=[(6,_)]) rfl ?_)))
 refine qQ (qL (qL (qC (.q 0 (.q 1 (.done))) Kr ?_)))
 refine qK rfl rfl rfl rfl (cG rfl rfl rfl rfl υ'91 ?_)
 refine kB 11 rfl (v':=.bool false) rfl ?_
 refine qR (qQ (kZ rfl ?_))
 refine qF (qQ (qL (qC (.q 0 (.q 1 (.q 2 (.q 3 ((.l 4 [] (.q 5 (.q 6 (.done))))))))) Kr ?_)))
 refine qK rfl rfl rfl rfl (qX rfl rfl rfl rfl (qG (k:=0) rfl rfl rfl rfl υ'82 rfl ζ'79 rfl ?_))
 refine kS (v:=(.pointer (some ⟨rb,0,none⟩))) (j:=0) (k':=i) (enc:=encV) (off:=ao_) rfl rfl rfl rfl α'79 haa encV_len hv Tk (by first | rfl | exact (Ad _).symm | omega) (by rfl) ?_
 have sp_2:=Vc.list_spec rb w.1 ra w.1.length rc (by rfl) Om
 refine qM rfl rfl rfl rfl rfl rfl κ'26 (sp_2) Ts ?_
 rintro ⟨qa,qc⟩ -
 try simp only [Ca,Na]
 refine qV (qS rfl rfl rfl rfl (qS rfl rfl rfl rfl (qR (qW [4,5] (e':=[(4,_),(5,_)]) rfl ?_))))
 refine qQ (qJ (s_vecF rb ra rc w.1 Ts ?_))
 refine s_vecF wb wa wc w.2.1 Ts ?_
 refine s_varF (some ⟨rb,0,none⟩,some ⟨wb,0,none⟩,fl,fg) w Ts hf ?_
 refine cY (res:=varA) (V:=V) (Y:=x.vs) (S:=[]) i Ts (by simp) hv hw ?_
 refine d_fold (b:=b) x (pa:=pa) (pc:=pc) (po:=po) (poc:=poc) (vb:=vb) (va:=va) (vc:=vc) (V:=V) Ts (by rfl) (by rfl) (by first | exact hV | simp) ?_
 refine ret2 rfl rfl rfl ((qa,qc)) (by rw [wF_nat,hw];rfl) (by trivial) ?_
 simp only [wF_nat,hw,rdsF,Option.map_some,Option.getD_some]
 exact Tf
theorem reads_none (pa:Option Addr) (pc:Nat) (po:Option Addr) (poc b:Nat) (x:DS) (hx:DInv x) (z:Int) (hz:z < 0∨(x.vs.length:Int)≤z):Spec Tryz.prog 48 [.pointer (some ⟨b,0,none⟩),.int .i64 z] [dR pa pc po poc b x] (fun (r:Option Addr × Nat)=>.tuple #[.slice r.1 (rdsF (wF x z)).length r.2,.bool (wF x z).isSome]) (fun r=>True) (fun r=>[dR pa pc po poc b x,own 1 encU r.1 r.2 (rdsF (wF x z))]):=by
 refine kQ (n:=17) Tryz.func48 rfl rfl rfl ?_
 intro Γ w0
 simp only [argE,Ca,Na,Zd,Nat.reduceAdd]
 refine qL (qC (.q 0 (.q 1 (.done))) Kr ?_)
 refine qS rfl rfl rfl rfl (qS rfl rfl rfl rfl (qR (qQ (qL (cS (A:=dR pa pc po poc b x) Tk ?_)))))
 refine d_open fun vb va vc V hV=>?_
 refine qC (.q 0 (.q 1 ((.l 2 [] (.q 3 (.done)))))) Kr ?_
 refine qK rfl rfl rfl rfl (qK rfl rfl rfl rfl ?_)
 have sp_1:=atno_spec b vb x.vs.length vc va (.int .i64 x.cost) V (by exact hV) z (by exact hz)
 refine qM rfl rfl rfl rfl rfl rfl κ'91 (sp_1) Ts ?_
 rintro ⟨⟩ -
 try simp only [Ca,Na]
 refine qV (qS rfl rfl rfl rfl (qR (qW [6] (e':=[(6,_)]) rfl ?_)))
 refine qQ (qL (qL (qC (.q 0 (.q 1 (.done))) Kr ?_)))
 refine qK rfl rfl rfl rfl (cG rfl rfl rfl rfl υ'91 ?_)
 refine kB 11 rfl (v':=.bool true) rfl ?_
 refine qR (qQ (cK rfl ?_))
 refine qL (qC (.q 0 (.q 1 (.done))) Kr ?_)
 refine qS rfl rfl rfl rfl (qS rfl rfl rfl rfl (qR (qQ (qJ (qN (d_fold (b:=b) x (pa:=pa) (pc:=pc) (po:=po) (poc:=poc) (vb:=vb) (va:=va) (vc:=vc) (V:=V) Ts (by rfl) (by rfl) (by first | exact hV | simp) ?_))))))
 refine cQ (fun _ h=>sR (sz:=1) (enc:=encU) h) ?_
 refine ret2 rfl rfl rfl ((none,0)) (by rw [wF_none hz];rfl) (by trivial) ?_
 simp only [wF_none hz,rdsF,Option.map_none,Option.getD_none]
 exact Tf
theorem reads_spec (pa:Option Addr) (pc:Nat) (po:Option Addr) (poc b:Nat) (x:DS) (hx:DInv x) (z:Int):Spec Tryz.prog 48 [.pointer (some ⟨b,0,none⟩),.int .i64 z] [dR pa pc po poc b x] (fun (r:Option Addr × Nat)=>.tuple #[.slice r.1 (rdsF (wF x z)).length r.2,.bool (wF x z).isSome]) (fun r=>True) (fun r=>[dR pa pc po poc b x,own 1 encU r.1 r.2 (rdsF (wF x z))]):=by
  rcases wF_cases x z with ⟨i,w,rfl,hw⟩ | hz
  · exact reads_some pa pc po poc b x hx i w hw
  · exact reads_none pa pc po poc b x hx z hz
theorem writes_some (pa:Option Addr) (pc:Nat) (po:Option Addr) (poc b:Nat) (x:DS) (hx:DInv x) (i:Nat) (w:V4) (hw:x.vs[i]?=some w):Spec Tryz.prog 51 [.pointer (some ⟨b,0,none⟩),.int .i64 ((i:Nat):Int)] [dR pa pc po poc b x] (fun (r:Option Addr × Nat)=>.tuple #[.slice r.1 (wrsF (wF x (i:Int))).length r.2,.bool (wF x (i:Int)).isSome]) (fun r=>True) (fun r=>[dR pa pc po poc b x,own 1 encU r.1 r.2 (wrsF (wF x (i:Int)))]):=by
 refine kQ (n:=17) Tryz.func51 rfl rfl rfl ?_
 intro Γ w0
 simp only [argE,Ca,Na,Zd,Nat.reduceAdd]
 have hwc:=hx.vs w (List.mem_of_getElem? hw)
 have hl_:=hwc.2.len
 refine qL (qC (.q 0 (.q 1 (.done))) Kr ?_)
 refine qS rfl rfl rfl rfl (qS rfl rfl rfl rfl (qR (qQ (qL (cS (A:=dR pa pc po poc b x) Tk ?_)))))
 refine d_open fun vb va vc V hV=>?_
 refine cZ (res:=varA) (V:=V) (Y:=x.vs) (S:=[]) i Tk (by simp) hw fun v_ hv=>?_
 obtain ⟨va_,vb_,fl,fg⟩:=v_
 refine s_var Tk fun hf=>?_
 refine s_vec Tk fun rb ra rc hra_=>?_
 simp only at hra_
 subst hra_
 refine s_vec Td fun wb wa wc hwa_=>?_
 simp only at hwa_
 subst hwa_
 simp only at hf
 refine qC (.q 0 (.q 1 ((.l 2 [] (.q 3 (.done)))))) Kr ?_
 refine qK rfl rfl rfl rfl (qK rfl rfl rfl rfl ?_)
 have sp_1:=at_spec b vb x.vs.length vc va (.int .i64 x.cost) V (by exact hV) i (some ⟨rb,0,none⟩,some ⟨wb,0,none⟩,fl,fg) hv
 refine qM rfl rfl rfl rfl rfl rfl κ'91 (sp_1) Ts ?_
 rintro ⟨ab,ao_⟩ haa
 try simp only [Ca,Na]
 refine qV (qS rfl rfl rfl rfl (qR (qW [6] (e':=[(6,_)]) rfl ?_)))
 refine qQ (qL (qL (qC (.q 0 (.q 1 (.done))) Kr ?_)))
 refine qK rfl rfl rfl rfl (cG rfl rfl rfl rfl υ'91 ?_)
 refine kB 11 rfl (v':=.bool false) rfl ?_
 refine qR (qQ (kZ rfl ?_))
 refine qF (qQ (qL (qC (.q 0 (.q 1 (.q 2 (.q 3 ((.l 4 [] (.q 5 (.q 6 (.done))))))))) Kr ?_)))
 refine qK rfl rfl rfl rfl (qX rfl rfl rfl rfl (qG (k:=1) rfl rfl rfl rfl υ'82 rfl ζ'79 rfl ?_))
 refine kS (v:=(.pointer (some ⟨wb,0,none⟩))) (j:=1) (k':=i) (enc:=encV) (off:=ao_) rfl rfl rfl rfl α'79 haa encV_len hv Tk (by first | rfl | exact (Ad _).symm | omega) (by rfl) ?_
 have sp_2:=Vc.list_spec wb w.2.1 wa w.2.1.length wc (by rfl) Om
 refine qM rfl rfl rfl rfl rfl rfl κ'26 (sp_2) Ts ?_
 rintro ⟨qa,qc⟩ -
 try simp only [Ca,Na]
 refine qV (qS rfl rfl rfl rfl (qS rfl rfl rfl rfl (qR (qW [4,5] (e':=[(4,_),(5,_)]) rfl ?_))))
 refine qQ (qJ (s_vecF rb ra rc w.1 Ts ?_))
 refine s_vecF wb wa wc w.2.1 Ts ?_
 refine s_varF (some ⟨rb,0,none⟩,some ⟨wb,0,none⟩,fl,fg) w Ts hf ?_
 refine cY (res:=varA) (V:=V) (Y:=x.vs) (S:=[]) i Ts (by simp) hv hw ?_
 refine d_fold (b:=b) x (pa:=pa) (pc:=pc) (po:=po) (poc:=poc) (vb:=vb) (va:=va) (vc:=vc) (V:=V) Ts (by rfl) (by rfl) (by first | exact hV | simp) ?_
 refine ret2 rfl rfl rfl ((qa,qc)) (by rw [wF_nat,hw];rfl) (by trivial) ?_
 simp only [wF_nat,hw,wrsF,Option.map_some,Option.getD_some]
 exact Tf
theorem writes_none (pa:Option Addr) (pc:Nat) (po:Option Addr) (poc b:Nat) (x:DS) (hx:DInv x) (z:Int) (hz:z < 0∨(x.vs.length:Int)≤z):Spec Tryz.prog 51 [.pointer (some ⟨b,0,none⟩),.int .i64 z] [dR pa pc po poc b x] (fun (r:Option Addr × Nat)=>.tuple #[.slice r.1 (wrsF (wF x z)).length r.2,.bool (wF x z).isSome]) (fun r=>True) (fun r=>[dR pa pc po poc b x,own 1 encU r.1 r.2 (wrsF (wF x z))]):=by
 refine kQ (n:=17) Tryz.func51 rfl rfl rfl ?_
 intro Γ w0
 simp only [argE,Ca,Na,Zd,Nat.reduceAdd]
 refine qL (qC (.q 0 (.q 1 (.done))) Kr ?_)
 refine qS rfl rfl rfl rfl (qS rfl rfl rfl rfl (qR (qQ (qL (cS (A:=dR pa pc po poc b x) Tk ?_)))))
 refine d_open fun vb va vc V hV=>?_
 refine qC (.q 0 (.q 1 ((.l 2 [] (.q 3 (.done)))))) Kr ?_
 refine qK rfl rfl rfl rfl (qK rfl rfl rfl rfl ?_)
 have sp_1:=atno_spec b vb x.vs.length vc va (.int .i64 x.cost) V (by exact hV) z (by exact hz)
 refine qM rfl rfl rfl rfl rfl rfl κ'91 (sp_1) Ts ?_
 rintro ⟨⟩ -
 try simp only [Ca,Na]
 refine qV (qS rfl rfl rfl rfl (qR (qW [6] (e':=[(6,_)]) rfl ?_)))
 refine qQ (qL (qL (qC (.q 0 (.q 1 (.done))) Kr ?_)))
 refine qK rfl rfl rfl rfl (cG rfl rfl rfl rfl υ'91 ?_)
 refine kB 11 rfl (v':=.bool true) rfl ?_
 refine qR (qQ (cK rfl ?_))
 refine qL (qC (.q 0 (.q 1 (.done))) Kr ?_)
 refine qS rfl rfl rfl rfl (qS rfl rfl rfl rfl (qR (qQ (qJ (qN (d_fold (b:=b) x (pa:=pa) (pc:=pc) (po:=po) (poc:=poc) (vb:=vb) (va:=va) (vc:=vc) (V:=V) Ts (by rfl) (by rfl) (by first | exact hV | simp) ?_))))))
 refine cQ (fun _ h=>sR (sz:=1) (enc:=encU) h) ?_
 refine ret2 rfl rfl rfl ((none,0)) (by rw [wF_none hz];rfl) (by trivial) ?_
 simp only [wF_none hz,wrsF,Option.map_none,Option.getD_none]
 exact Tf
theorem writes_spec (pa:Option Addr) (pc:Nat) (po:Option Addr) (poc b:Nat) (x:DS) (hx:DInv x) (z:Int):Spec Tryz.prog 51 [.pointer (some ⟨b,0,none⟩),.int .i64 z] [dR pa pc po poc b x] (fun (r:Option Addr × Nat)=>.tuple #[.slice r.1 (wrsF (wF x z)).length r.2,.bool (wF x z).isSome]) (fun r=>True) (fun r=>[dR pa pc po poc b x,own 1 encU r.1 r.2 (wrsF (wF x z))]):=by
  rcases wF_cases x z with ⟨i,w,rfl,hw⟩ | hz
  · exact writes_some pa pc po poc b x hx i w hw
  · exact writes_none pa pc po poc b x hx z hz
theorem flags_spec (pa:Option Addr) (pc:Nat) (po:Option Addr) (poc b:Nat) (x:DS) (hx:DInv x):Spec Tryz.prog 13 [.pointer (some ⟨b,0,none⟩)] [dR pa pc po poc b x] (fun (r:Option Addr × Nat)=>.slice r.1 (flF x.vs).length r.2) (fun r=>True) (fun r=>[dR pa pc po poc b x,own 2 enc2 r.1 r.2 (flF x.vs)]):=by
 refine kQ (n:=29) Tryz.func13 rfl rfl rfl ?_
 intro Γ w0
 simp only [argE,Ca,Na,Zd,Nat.reduceAdd]
 have hva:=hx.v.ck.sh.va
 have hvl:=hx.len
 refine qL (qC (.q 0 (.done)) Kr ?_)
 refine qS rfl rfl rfl rfl (qR (qQ (qL (qC (.q 0 (.done)) Kr ?_))))
 refine qS rfl rfl rfl rfl (qR (qQ (qL (qL (cS (A:=dR pa pc po poc b x) Tk ?_)))))
 refine d_open fun vb va vc V hV=>?_
 refine qC (.q 0 ((.l 1 [] (.done)))) Kr ?_
 refine qK rfl rfl rfl rfl ?_
 have sp_1:=there_spec b vb (.slice va x.vs.length vc) (.int .i64 x.cost)
 refine qM rfl rfl rfl rfl rfl rfl κ'25 (sp_1) Ts ?_
 rintro ⟨⟩ -
 try simp only [Ca,Na]
 refine qV (qR (qQ (cK rfl ?_)))
 refine qL (qC (.q 0 (.q 1 (.q 2 (.q 3 (.q 4 (.q 5 (.done))))))) Kr ?_)
 refine qK rfl rfl rfl rfl (qX rfl rfl rfl rfl (qG (k:=1) rfl rfl rfl rfl υ'43 rfl ζ'41 rfl ?_))
 refine qP (j:=1) rfl rfl rfl rfl α'41 Tk Az (by rfl) ?_
 refine cJ rfl rfl rfl rfl υ'41 ?_
 refine qK rfl rfl rfl rfl (qR (qW [3,11,12,13] (e':=[(3,_),(11,_),(12,_),(13,_)]) rfl ?_))
 refine qQ (kC (cQ (fun _ h=>sR (sz:=2) (enc:=enc2) h) ?_))
 refine cH (α:=Nat × Option Addr × Nat) (fun (x_:Nat × Option Addr × Nat)=>match x_ with | (k,ga,gc)=>k≤x.vs.length) (fun (x_:Nat × Option Addr × Nat)=>match x_ with | (k,ga,gc)=>[(3,.slice ga ((flF (x.vs.take k)).length) gc),(13,.int .i64 ((k:Nat):Int))]) (fun (x_:Nat × Option Addr × Nat)=>match x_ with | (k,ga,gc)=>[restL varA V x.vs [],own 2 enc2 ga gc (flF (x.vs.take k))]) (fun (x_:Nat × Option Addr × Nat)=>match x_ with | (k,ga,gc)=>x.vs.length - k) [11,12] (er:=[(11,_),(12,_)]) rfl (0,none,0) ?_ (by exact ⟨rfl,rfl,trivial⟩) (by (try dsimp only);(try simp only [Ad,Zd]);rw [List.take_zero,show flF ([]:List V4)=[] from rfl];(repeat ((with_reducible apply Z2);focus (first | (with_reducible (repeat (first | exact Z0 | apply Z1));done) | (repeat (first | exact Z0 | apply Z1)))));exact Z3) ?_
 · exact Nat.zero_le _
 rintro ⟨k,ga,gc⟩ hle_k
 try simp only [Ca,Na]
 have hfl:=flF_len (x.vs.take k)
 rw [List.length_take] at hfl
 refine qL (qC (.q 0 (.done)) Kr ?_)
 refine qB rfl rfl rfl rfl rfl (cB _ _ _ _) ?_
 refine qR (qQ (qL ?_))
 refine qD rfl (fun hlt=>?_) (fun hlt=>?_)
 ·
  obtain ⟨w,hw⟩:=cR (l:=x.vs) (i:=k) Om
  refine cZ (res:=varA) (V:=V) (Y:=x.vs) (S:=[]) k Tk (by simp) hw fun v_ hv=>?_
  obtain ⟨va_,vb_,fl,fg⟩:=v_
  refine s_var Tk fun hf=>?_
  refine s_vec Tk fun rb ra rc hra_=>?_
  simp only at hra_
  subst hra_
  refine s_vec Td fun wb wa wc hwa_=>?_
  simp only at hwa_
  subst hwa_
  simp only at hf
  refine qF (qQ (qL (kC (qL (qC (.q 0 (.q 1 (.q 2 ((.l 3 [] (.q 4 ((.l 5 [] (.done))))))))) Kr ?_)))))
  refine qK rfl rfl rfl rfl (kF (sz:=3) (k:=k) (enc:=encV) (xs:=V) rfl rfl rfl rfl rfl υ'41 ζ'82 hv (by first | rfl | omega) Om Tk ?_)
  intro ib16 io16 ha16 hl16 hc16
  refine q_loadN_O (j:=0) (k':=k) (us:=[_,_,_,_]) (enc:=encV) (off:=io16) rfl rfl rfl rfl Tryz.isAgg82 ζ'82 ha16 encV_len hv Tk (by first | rfl | exact (Ad _).symm | omega) (by rfl) rfl ?_
  refine sD rfl rfl rfl ω'82 (zs:=[.pointer none,.pointer none,.int .i64 0,.bool false]) rfl ?_
  intro b5
  refine qV (qS rfl rfl rfl rfl (kH (j:=0) rfl rfl rfl rfl ζ'82 (us:=[_,_,_,_]) rfl rfl rfl Tk Az (by first | decide | (simp;done) | omega) ?_))
  simp only [setL,List.set]
  refine qV (qR (qW [3,4,5,11,12,13] (e':=[(3,_),(4,_),(5,_),(11,_),(12,_),(13,_)]) rfl ?_))
  refine qQ (qL (qC (.q 0 (.q 1 (.done))) Kr ?_))
  refine qG (k:=3) rfl rfl rfl rfl υ'82 rfl ζ'4 rfl ?_
  refine qP (j:=3) rfl rfl rfl rfl α'4 Tk Az (by rfl) ?_
  refine qR (qQ ?_)
  refine c_cond rfl (fun hfg=>?_) (fun hfg=>?_)
  ·
   try simp only [Bool.and_eq_true,Bool.or_eq_true,Bool.not_eq_true',Bool.not_eq_false',Bool.and_eq_false_iff,Bool.or_eq_false_iff,decide_eq_true_eq,decide_eq_false_iff_not] at hfg
   refine qC (.q 0 (.q 1 (.q 2 (.q 3 (.q 4 ((.l 5 [] ((.l 6 [] (.q 7 (.done))))))))))) Kr ?_
   refine qK rfl rfl rfl rfl (qK rfl rfl rfl rfl (qG (k:=2) rfl rfl rfl rfl υ'82 rfl ζ'3 rfl ?_))
   refine qP (j:=2) rfl rfl rfl rfl α'3 Tk Az (by rfl) ?_
   refine cC rfl rfl rfl rfl (vs:=[_,_]) (kV υ'63 ω'63 (ps:=[(0,1),(1,1)]) ⟨rfl,ζ'3,rfl,ζ'3,trivial⟩ rfl) ?_
   refine cL rfl rfl rfl rfl (sQ (us:=[_,_]) υ'60 ζ'63 rfl ω'63 rfl rfl rfl) ?_
   intro b25
   refine qV (sG (sz:=2) (enc:=enc2) (xs:=(flF (x.vs.take k))) rfl rfl rfl rfl rfl υ'60 Tryz.typeInfo63 rfl rfl rfl (by decide) Tk Tk (by first | rfl | omega | (simp;done) | (simp;omega)) (ys:=[(((k:Nat):Int),fl)]) (sX sS) (by rfl) (by first | rfl | omega) (enc2_len) (enc2_one) Om (by show _*16≤_;omega) ?_)
   intro ao26 cp26
   refine qV (qS rfl rfl rfl rfl (qR (qW [3,11,12,13] (e':=[(3,_),(11,_),(12,_),(13,_)]) rfl ?_)))
   refine kX (qQ (qC (.q 0 (.q 1 (.done))) Kr ?_))
   refine qB rfl rfl rfl rfl rfl (cV _ (by exact kP Om Om)) ?_
   refine qK rfl rfl rfl rfl (qR (qQ ?_))
   have hnx:=flF_next hw
   rw [if_pos (by rw [← hf];exact hfg)] at hnx
   rw [show ((k:Int),w.2.2.1)=((k:Int),fl) from by rw [← hf]] at hnx
   rw [← hnx]
   refine s_vecF rb ra rc w.1 Ts ?_
   refine s_vecF wb wa wc w.2.1 Ts ?_
   refine s_varF (some ⟨rb,0,none⟩,some ⟨wb,0,none⟩,fl,fg) w Ts hf ?_
   refine cY (res:=varA) (V:=V) (Y:=x.vs) (S:=[]) k Ts (by simp) hv hw ?_
   refine kB 3 rfl (v':=.slice ao26 (flF (x.vs.take (k+1))).length cp26) (by rw [hnx,List.length_append];rfl) ?_
   refine kB 3 rfl (v':=.slice ao26 ((flF (x.vs.take (k+1))).length) cp26) (by first | rfl | (congr 1;done) | (congr 1 <;> first | rfl | omega | (simp;done) | (simp;omega))) ?_
   refine kJ (x:=(k,ga,gc)) ((k+1,ao26,cp26)) ?_ ?_ ?_ ?_
   · try dsimp only
     omega
   · show x.vs.length - (k+1) < x.vs.length - k;omega
   · exact ⟨rfl,rfl,rfl,rfl,trivial⟩
   · (try simp only [Ca,Na]);exact Tf
  try simp only [Bool.and_eq_true,Bool.or_eq_true,Bool.not_eq_true',Bool.not_eq_false',Bool.and_eq_false_iff,Bool.or_eq_false_iff,decide_eq_true_eq,decide_eq_false_iff_not] at hfg
  refine qF (kX (qQ (qC (.q 0 (.q 1 (.done))) Kr ?_)))
  refine qB rfl rfl rfl rfl rfl (cV _ (by exact kP Om Om)) ?_
  refine qK rfl rfl rfl rfl (qR (qW [3,11,12,13] (e':=[(3,_),(11,_),(12,_),(13,_)]) rfl ?_))
  refine qQ ?_
  have hnx:=flF_next hw
  rw [if_neg (by rw [← hf];simpa using hfg),List.append_nil] at hnx
  rw [← hnx]
  refine s_vecF rb ra rc w.1 Ts ?_
  refine s_vecF wb wa wc w.2.1 Ts ?_
  refine s_varF (some ⟨rb,0,none⟩,some ⟨wb,0,none⟩,fl,fg) w Ts hf ?_
  refine cY (res:=varA) (V:=V) (Y:=x.vs) (S:=[]) k Ts (by simp) hv hw ?_
  refine kB 3 rfl (v':=.slice ga ((flF (x.vs.take (k+1))).length) gc) (by first | rfl | (congr 1;done) | (congr 1 <;> first | rfl | omega | (simp;done) | (simp;omega))) ?_
  refine kJ (x:=(k,ga,gc)) ((k+1,ga,gc)) ?_ ?_ ?_ ?_
  · try dsimp only
    omega
  · show x.vs.length - (k+1) < x.vs.length - k;omega
  · exact ⟨rfl,rfl,rfl,rfl,trivial⟩
  · (try simp only [Ca,Na]);exact Tf
 refine cW (qY (qY (kK (qQ (qL (qC (.q 0 (.q 1 (.done))) Kr ?_))))))
 refine qK rfl rfl rfl rfl (qS rfl rfl rfl rfl (qR (qW [2] (e':=[(2,_)]) rfl ?_)))
 refine qQ (qJ ?_)
 obtain rfl:k=x.vs.length:=by omega
 rw [List.take_length]
 refine d_fold (b:=b) x (pa:=pa) (pc:=pc) (po:=po) (poc:=poc) (vb:=vb) (va:=va) (vc:=vc) (V:=V) Ts (by rfl) (by rfl) (by first | exact hV | simp) ?_
 refine kD rfl rfl ((ga,gc)) (by first | rfl | (first | rfl | (congr 1;done) | (congr 1 <;> first | rfl | omega | (simp;done) | (simp;omega)))) (by trivial) ?_
 exact Tf
end Go.Ab.Dj
