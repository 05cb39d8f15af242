/- What the law Plays rests on, part 6 of 8. -/
import Derived.Test.YtkoclbjiaofkhaaGreatPlaysE
import Derived.Laws.IdiomRangeMap
import Derived.LaidEqlPtr
set_option linter.unusedVariables false
set_option linter.unusedSimpArgs false
set_option maxRecDepth 100000
namespace Go.Ab.Dj
open Go Go.Proofs Go.Ab Go.Ab.Fe Go.Ab.Vc
/-- What is kept of a variable behind an access (n events stand ahead of it). -/
def raceF (k:Int) (l:List Int) (w:V4):Prop:=(k=2∧¬ LeqL w.1 l)∨¬ LeqL w.2.1 l
instance (k:Int) (l:List Int) (w:V4):Decidable (raceF k l w):=by unfold raceF;infer_instance
def acW (n k t:Int) (l:List Int) (w:V4):V4 :=
  (if k=2 then w.1 else stL w.1 t.toNat (l.getD t.toNat 0),if k=2 then stL w.2.1 t.toNat (l.getD t.toNat 0) else w.2.1,if raceF k l w∧w.2.2.2=false then n else w.2.2.1,w.2.2.2 || decide (raceF k l w))
def acF (x:DS) (k t o:Int):List V4:=if k=1∨k=2 then x.vs.set o.toNat (acW x.v.ck.n k t (thF x.v t) (x.vs.getD o.toNat v0)) else x.vs
def deF (x:DS) (k t o:Int):DS:=if vcanF x.v k t o then ⟨vnF x.v k t o,acF x k t o,if k=1∨k=2 then x.cost+k else x.cost⟩ else x
def deE (x:DS) (k t o:Int):Int:=if vcanF x.v k t o then 0 else 6
theorem de_acc {x:DS} {k t o:Int} {l:List Int} {w:V4} (hv:vcanF x.v k t o) (hk:k=1∨k=2) (hw:x.vs[o.toNat]?=some w) (hl:x.v.th t=some l):deF x k t o=⟨vnF x.v k t o,x.vs.set o.toNat (acW x.v.ck.n k t l w),x.cost+k⟩:=by
  rw [deF,if_pos hv,acF,if_pos hk,if_pos hk,thF_eq hl,getD_some hw]
theorem de_no {x:DS} {k t o:Int} (hv:vcanF x.v k t o) (k1:¬ k=1) (k2:¬ k=2):deF x k t o=⟨vnF x.v k t o,x.vs,x.cost⟩:=by
  rw [deF,if_pos hv,acF,if_neg Om,if_neg Om]
theorem acc_obj {x:CS} {k t o:Int} (hc:canF x k t o) (hk:k=1∨k=2):0≤o∧o < x.va:=by
  rcases hc with ⟨h1,h2,-⟩ | ⟨h1,h0,h2⟩
  · omega
  · unfold okK at h2
    rcases h2 with h | h | h | h | h | h | h | h <;> omega
theorem ac_cv {n k t:Int} {l:List Int} {w:V4} (hl:CV l) (hw:CV w.1∧CV w.2.1) (ht:0≤t∧t < 65535):CV (acW n k t l w).1∧CV (acW n k t l w).2.1:=by
  have h:=g_rng hl.rng (by decide) t.toNat
  unfold acW
  constructor
  · show CV (if k=2 then w.1 else _)
    split
    · exact hw.1
    · exact stL_cv hw.1 Om h.1 h.2
  · show CV (if k=2 then _ else w.2.1)
    split
    · exact stL_cv hw.2 Om h.1 h.2
    · exact hw.2
theorem nxF_can {x:CS} {k t o:Int} (h:canF x k t o):(nxF x k t o).n=x.n+1∧(nxF x k t o).va=x.va∧(nxF x k t o).th=x.th:=by
  obtain ⟨n5,n6,n7,n9,n10,n11,nn⟩:=nxF_k h
  by_cases k5:k=5
  · rw [n5 k5];exact ⟨rfl,rfl,rfl⟩
  by_cases k6:k=6
  · rw [n6 k6];exact ⟨rfl,rfl,rfl⟩
  by_cases k7:k=7
  · rw [n7 k7];exact ⟨rfl,rfl,rfl⟩
  by_cases k9:k=9
  · rw [n9 k9];exact ⟨rfl,rfl,rfl⟩
  by_cases k10:k=10
  · rw [n10 k10];exact ⟨rfl,rfl,rfl⟩
  by_cases k11:k=11
  · rw [n11 k11];exact ⟨rfl,rfl,rfl⟩
  rw [nn k5 k6 k7 k9 k10 k11];exact ⟨rfl,rfl,rfl⟩
theorem de_inv {x:DS} (hx:DInv x) (k t o:Int):DInv (deF x k t o):=by
  by_cases hv:vcanF x.v k t o
  · obtain ⟨l,hth⟩:=th_some hx.v (can_th hv.1)
    have ht:=th_rng hx.v (can_th hv.1)
    obtain ⟨h1,h2,h3⟩:=nxF_can hv.1
    have hc:=hx.c0
    by_cases hk:k=1∨k=2
    · obtain ⟨p0,p1⟩:=acc_obj hv.1 hk
      have hl:=hx.len
      obtain ⟨w,hw⟩:=cR (l:=x.vs) (i:=o.toNat) Om
      rw [de_acc hv hk hw hth]
      refine ⟨next_vinv hx.v hv,by rw [List.length_set,vn_ck,h2];exact hl,fun w2 h=>?_,by show 0≤x.cost+k∧x.cost+k≤2*(vnF x.v k t o).ck.n;rw [vn_ck,h1];omega⟩
      rcases List.mem_or_eq_of_mem_set h with h | rfl
      · exact hx.vs _ h
      · exact ac_cv (hx.v.thc _ _ hth) (hx.vs _ (List.mem_of_getElem? hw)) ht
    · rw [de_no hv Om Om]
      exact ⟨next_vinv hx.v hv,by rw [vn_ck,h2];exact hx.len,hx.vs,by show 0≤x.cost∧x.cost≤2*(vnF x.v k t o).ck.n;rw [vn_ck,h1];omega⟩
  · rw [deF,if_neg hv];exact hx
theorem de_n {x:DS} (k t o:Int):(deF x k t o).v.ck.n≤x.v.ck.n+1∧(deF x k t o).v.ck.pa=x.v.ck.pa∧(deF x k t o).v.ck.th=x.v.ck.th∧(deF x k t o).v.ck.va=x.v.ck.va:=by
  by_cases hv:vcanF x.v k t o
  · obtain ⟨h1,h2,h3⟩:=nxF_can hv.1
    rw [deF,if_pos hv]
    show (vnF x.v k t o).ck.n≤_∧(vnF x.v k t o).ck.pa=_∧(vnF x.v k t o).ck.th=_∧(vnF x.v k t o).ck.va=_
    rw [vn_ck,h1,h2,h3,nx_pa]
    exact ⟨Int.le_refl _,rfl,rfl,rfl⟩
  · rw [deF,if_neg hv];exact ⟨by omega,rfl,rfl,rfl⟩
theorem event_spec (pa:Option Addr) (pc:Nat) (po:Option Addr) (poc b:Nat) (x:DS) (hx:DInv x) (hn:x.v.ck.n≤1000000000000000) (pl:List Int) (hpl:x.v.ck.pa=pl) (k t o:Int):Spec Tryz.prog 16 [.pointer (some ⟨b,0,none⟩),.agg #[.int .i64 k,.int .i64 t,.int .i64 o]] [dR pa pc po poc b x,own 1 encZ pa pc pl,own 1 encZ po poc pl] (fun (_:Unit)=>.int .i64 (deE x k t o)) (fun _=>True) (fun _=>[dR pa pc po poc b (deF x k t o),own 1 encZ pa pc pl,own 1 encZ po poc pl]):=by
 refine kQ (n:=128) Tryz.func16 rfl rfl rfl ?_
 intro Γ w0
 simp only [argE,Ca,Na,Zd,Nat.reduceAdd]
 refine qL (qC ((.l 0 [] (.q 1 (.done)))) Kr ?_)
 refine sP rfl rfl rfl rfl (us:=[_,_,_]) rfl ?_
 intro b3
 refine qV (qS rfl rfl rfl rfl (qR (qQ (qL (qL ?_)))))
 have hcc:=hx.c0
 have hlen:=hx.len
 refine cS (A:=dR pa pc po poc b x) Tk ?_
 refine d_open fun vb va vc V hV=>?_
 refine qC (.q 0 ((.l 1 [] (.q 2 (.done))))) Kr ?_
 refine qK rfl rfl rfl rfl ?_
 have sp_1:=there_spec b vb (.slice va x.vs.length vc) (.int .i64 x.cost)
 refine qM rfl rfl rfl rfl rfl rfl κ'25 (sp_1) Ts ?_
 rintro ⟨⟩ -
 try simp only [Ca,Na]
 refine qV (sY rfl rfl rfl rfl ?_)
 refine kB 11 rfl (v':=.bool false) rfl ?_
 refine qR (qW [0,3,11] (e':=[(0,_),(3,_),(11,_)]) rfl ?_)
 refine qQ (kZ rfl ?_)
 refine qF (qQ (qL (qL (kL rfl (.q 0 (.q 1 (.q 2 (.q 3 (.q 4 ((.l 5 [] (.q 6 (.done))))))))) Kr ?_))))
 refine qK rfl rfl rfl rfl (qX rfl rfl rfl rfl (qG (k:=0) rfl rfl rfl rfl υ'43 rfl ζ'40 rfl ?_))
 refine qP (j:=0) rfl rfl rfl rfl α'40 Tk Az (by rfl) ?_
 refine kG rfl rfl rfl rfl α'47 ζ'47 Tk 0 (us:=[_,_,_]) Az rfl rfl ?_
 have sp_2:=can_spec pa pc po poc vb x.v hx.v k t o
 refine qM rfl rfl rfl rfl rfl rfl Tryz.call27 (sp_2) Ts ?_
 rintro ⟨⟩ -
 try simp only [Ca,Na]
 refine qV (sY rfl rfl rfl rfl ?_)
 refine qR (qW [0,3,18] (e':=[(0,_),(3,_),(18,_)]) rfl ?_)
 refine qQ ?_
 refine c_cond_np rfl (fun hvn=>?_) (fun hvn=>?_)
 ·
  refine qL (qC (.q 0 (.done)) Kr ?_)
  refine qS rfl rfl rfl rfl (qR (qQ (qJ (qN (d_fold (b:=b) x (pa:=pa) (pc:=pc) (po:=po) (poc:=poc) (vb:=vb) (va:=va) (vc:=vc) (V:=V) Ts (by rfl) (by rfl) (by first | exact hV | simp) ?_)))))
  rw [show deF x k t o=x from if_neg hvn]
  refine kD rfl rfl (()) (by rw [show deE x k t o=6 from if_neg hvn]) (by trivial) ?_
  exact Tf
 have hvc:=hvn
 obtain ⟨l,hth⟩:=th_some hx.v (can_th hvc.1)
 obtain ⟨h0,h1⟩:=th_rng hx.v (can_th hvc.1)
 have hlc:=hx.v.thc _ _ hth
 refine qF (qQ (qL (qC (.q 0 (.done)) Kr ?_)))
 refine qS rfl rfl rfl rfl (qR (qQ (qL (cS (A:=vsR pa pc po poc vb x.v) Tk ?_))))
 refine vs_open fun cb m1 m2 m3 m4 F1 F2 F3 F4=>?_
 refine s_rest_take (F:=F1) (T:=x.v.th) (S:=[]) t Tk (by simp) hth fun tv htF=>?_
 refine s_vec Tk fun tb ta tc hta=>?_
 subst hta
 refine kL rfl (.q 0 (.q 1 (.q 2 (.q 3 (.q 4 (.q 5 (.q 6 (.q 7 (.q 8 (.q 9 (.q 10 (.done)))))))))))) Kr ?_
 refine qK rfl rfl rfl rfl (qX rfl rfl rfl rfl (qG (k:=0) rfl rfl rfl rfl υ'43 rfl ζ'40 rfl ?_))
 refine qP (j:=0) rfl rfl rfl rfl α'40 Tk Az (by rfl) ?_
 refine qX rfl rfl rfl rfl (qG (k:=2) rfl rfl rfl rfl υ'87 rfl ζ'84 rfl ?_)
 refine qP (j:=2) rfl rfl rfl rfl α'84 Tk Az (by rfl) ?_
 refine qG (k:=1) rfl rfl rfl rfl υ'47 rfl ζ'3 rfl ?_
 refine qP (j:=1) rfl rfl rfl rfl α'3 Tk Az (by rfl) ?_
 refine rQ (ek:=ekZ) (ev1:=evA) (F:=F1) (m:=m1) (k:=t) none rfl rfl rfl rfl rfl υ'84 (cM υ'3) ω'79 Tk ?_
 refine kB 28 rfl (v':=.pointer (some ⟨tb,0,none⟩)) (by rw [htF];rfl) ?_
 refine qS rfl rfl rfl rfl (qR (qW [0,3,5,6] (e':=[(0,_),(3,_),(5,_),(6,_)]) rfl ?_))
 refine qQ (qL (qL (qC (.q 0 (.q 1 (.done))) Kr ?_)))
 refine qG (k:=0) rfl rfl rfl rfl υ'47 rfl ζ'45 rfl ?_
 refine qP (j:=0) rfl rfl rfl rfl α'45 Tk Az (by rfl) ?_
 refine qR (qQ (kC (qL (kC (qL (kC (qL (qL ?_))))))))
 refine qL (qC (.q 0 (.q 1 (.done))) Kr ?_)
 refine qB rfl rfl rfl rfl rfl (cP _ _ _ _) ?_
 refine qS rfl rfl rfl rfl (qR (qQ ?_))
 refine qD rfl (fun k2=>?_) (fun k2=>?_)
 ·
  refine cW (qY (qY (kK (qQ (qL (qC (.q 0 (.q 1 (.q 2 (.q 3 (.q 4 (.q 5 (.q 6 ((.l 7 [] (.done)))))))))) Kr ?_))))))
  refine qK rfl rfl rfl rfl (qX rfl rfl rfl rfl (qG (k:=2) rfl rfl rfl rfl υ'43 rfl ζ'3 rfl ?_))
  refine qP (j:=2) rfl rfl rfl rfl α'3 Tk Az (by rfl) ?_
  refine qB rfl rfl rfl rfl rfl (cV _ (by exact kP Om Om)) ?_
  refine qX rfl rfl rfl rfl (qG (k:=2) rfl rfl rfl rfl υ'43 rfl ζ'3 rfl ?_)
  refine kH (j:=2) rfl rfl rfl rfl ζ'3 (us:=[_]) rfl rfl rfl Tk Az (by first | decide | (simp;done) | omega) ?_
  simp only [setL,List.set]
  refine qV (qR (qW [0,3,6] (e':=[(0,_),(3,_),(6,_)]) rfl ?_))
  refine qQ ?_
  obtain ⟨p0,p1⟩:=acc_obj hvc.1 Om
  obtain ⟨w,hw⟩:=cR (l:=x.vs) (i:=o.toNat) Om
  obtain ⟨hwr,hww⟩:=hx.vs w (List.mem_of_getElem? hw)
  refine cZ (res:=varA) (V:=V) (Y:=x.vs) (S:=[]) o.toNat Tk (by simp) hw fun v_ hv=>?_
  obtain ⟨va_,vb_,fl,fg⟩:=v_
  refine s_var Tk fun hf=>?_
  refine s_vec Tk fun rb ra rc hra_=>?_
  simp only at hra_
  subst hra_
  refine s_vec Td fun wb wa wc hwa_=>?_
  simp only at hwa_
  subst hwa_
  simp only at hf
  have e1:w.2.2.1=fl:=by rw [← hf]
  have e2:w.2.2.2=fg:=by rw [← hf]
  have hgr:=g_rng hlc.rng (by decide) t.toNat
  refine kL rfl (.q 0 (.q 1 (.q 2 (.q 3 (.q 4 (.q 5 (.q 6 (.q 7 (.q 8 (.q 9 ((.l 10 [] (.q 11 (.q 12 (.done))))))))))))))) Kr ?_
  refine qK rfl rfl rfl rfl (qX rfl rfl rfl rfl (qG (k:=1) rfl rfl rfl rfl υ'43 rfl ζ'41 rfl ?_))
  refine qP (j:=1) rfl rfl rfl rfl α'41 Tk Az (by rfl) ?_
  refine qG (k:=2) rfl rfl rfl rfl υ'47 rfl ζ'3 rfl ?_
  refine qP (j:=2) rfl rfl rfl rfl α'3 Tk Az (by rfl) ?_
  refine kF (sz:=3) (k:=o.toNat) (enc:=encV) (xs:=V) rfl rfl rfl rfl rfl υ'41 ζ'82 hv (by first | rfl | omega) Om Tk ?_
  intro ib48 io48 ha48 hl48 hc48
  refine qG (k:=0) rfl rfl rfl rfl υ'82 rfl ζ'79 rfl ?_
  refine kS (v:=(.pointer (some ⟨rb,0,none⟩))) (j:=0) (k':=o.toNat) (enc:=encV) (off:=io48) rfl rfl rfl rfl α'79 ha48 encV_len hv Tk (by first | rfl | exact (Ad _).symm | omega) (by rfl) ?_
  refine qK rfl rfl rfl rfl ?_
  have sp_3:=Vc.leq_spec rb tb w.1 l ra ta w.1.length rc l.length tc (by rfl) (by rfl) hwr hlc
  refine qM rfl rfl rfl rfl rfl rfl Tryz.call28 (sp_3) Ts ?_
  rintro ⟨⟩ -
  try simp only [Ca,Na]
  refine qV (sY rfl rfl rfl rfl ?_)
  refine qS rfl rfl rfl rfl (qR (qW [0,3,5,6] (e':=[(0,_),(3,_),(5,_),(6,_)]) rfl ?_))
  refine kX (qQ (qL (qL (qC (.q 0 (.q 1 (.q 2 (.q 3 (.q 4 (.q 5 (.q 6 ((.l 7 [] (.done)))))))))) Kr ?_))))
  refine qK rfl rfl rfl rfl (qX rfl rfl rfl rfl (qG (k:=2) rfl rfl rfl rfl υ'43 rfl ζ'3 rfl ?_))
  refine qP (j:=2) rfl rfl rfl rfl α'3 Tk Az (by rfl) ?_
  refine qB rfl rfl rfl rfl rfl (cV _ (by exact kP Om Om)) ?_
  refine qX rfl rfl rfl rfl (qG (k:=2) rfl rfl rfl rfl υ'43 rfl ζ'3 rfl ?_)
  refine kH (j:=2) rfl rfl rfl rfl ζ'3 (us:=[_]) rfl rfl rfl Tk Az (by first | decide | (simp;done) | omega) ?_
  simp only [setL,List.set]
  refine qV (qR (qW [0,3,5,6] (e':=[(0,_),(3,_),(5,_),(6,_)]) rfl ?_))
  refine qQ (qL (kL rfl (.q 0 (.q 1 (.q 2 (.q 3 (.q 4 (.q 5 (.q 6 (.q 7 (.done))))))))) Kr ?_))
  refine qK rfl rfl rfl rfl (qX rfl rfl rfl rfl (qG (k:=1) rfl rfl rfl rfl υ'43 rfl ζ'41 rfl ?_))
  refine qP (j:=1) rfl rfl rfl rfl α'41 Tk Az (by rfl) ?_
  refine qG (k:=2) rfl rfl rfl rfl υ'47 rfl ζ'3 rfl ?_
  refine qP (j:=2) rfl rfl rfl rfl α'3 Tk Az (by rfl) ?_
  refine kF (sz:=3) (k:=o.toNat) (enc:=encV) (xs:=V) rfl rfl rfl rfl rfl υ'41 ζ'82 hv (by first | rfl | omega) Om Tk ?_
  intro ib67 io67 ha67 hl67 hc67
  refine qS rfl rfl rfl rfl (qR (qW [0,3,5,6,7] (e':=[(0,_),(3,_),(5,_),(6,_),(7,_)]) rfl ?_))
  refine qQ (qL (qC (.q 0 (.q 1 (.q 2 (.q 3 (.q 4 (.q 5 (.q 6 ((.l 7 [] (.q 8 (.q 9 (.q 10 (.done))))))))))))) Kr ?_))
  refine qK rfl rfl rfl rfl (qK rfl rfl rfl rfl ?_)
  refine s_bool_np 69 rfl (fun hr1=>?_) (fun hr1=>?_)
  ·
   refine qZ rfl rfl rfl rfl (qZ rfl rfl rfl rfl (qZ rfl rfl rfl rfl (qZ rfl rfl rfl rfl (qZ rfl rfl rfl rfl (rS rfl rfl rfl rfl ?_)))))
   refine qZ rfl rfl rfl rfl (kW rfl rfl rfl rfl rfl (qS rfl rfl rfl rfl (qR (qW [0,3,5,7] (e':=[(0,_),(3,_),(5,_),(7,_)]) rfl ?_))))
   refine qQ (qL (qL (qC (.q 0 (.q 1 (.q 2 (.q 3 (.q 4 (.q 5 (.q 6 (.q 7 (.done))))))))) Kr ?_)))
   refine qK rfl rfl rfl rfl (qK rfl rfl rfl rfl (qK rfl rfl rfl rfl (qX rfl rfl rfl rfl (qG (k:=3) rfl rfl rfl rfl υ'82 rfl ζ'4 rfl ?_))))
   refine kS (v:=(.bool fg)) (j:=3) (k':=o.toNat) (enc:=encV) (off:=io67) rfl rfl rfl rfl α'4 ha67 encV_len hv Tk (by first | rfl | exact (Ad _).symm | omega) (by rfl) ?_
   refine sY rfl rfl rfl rfl ?_
   refine kW rfl rfl rfl rfl rfl (qR (qW [0,3,7,85] (e':=[(0,_),(3,_),(7,_),(85,_)]) rfl ?_))
   refine qQ ?_
   refine c_cond rfl (fun hfg=>?_) (fun hfg=>?_)
   ·
    try simp only [Bool.and_eq_true,Bool.or_eq_true,Bool.not_eq_true',Bool.not_eq_false',Bool.and_eq_false_iff,Bool.or_eq_false_iff,decide_eq_true_eq,decide_eq_false_iff_not] at hfg
    refine qC (.q 0 (.q 1 (.q 2 (.q 3 (.q 4 (.q 5 (.q 6 (.q 7 (.q 8 ((.l 9 [] (.q 10 (.q 11 ((.l 12 [] (.q 13 (.q 14 ((.l 15 [] (.done)))))))))))))))))))) Kr ?_
    refine qK rfl rfl rfl rfl (qK rfl rfl rfl rfl (qK rfl rfl rfl rfl (qX rfl rfl rfl rfl (qG (k:=0) rfl rfl rfl rfl υ'43 rfl ζ'40 rfl ?_))))
    refine qP (j:=0) rfl rfl rfl rfl α'40 Tk Az (by rfl) ?_
    refine qX rfl rfl rfl rfl (qG (k:=0) rfl rfl rfl rfl υ'87 rfl ζ'83 rfl ?_)
    refine qP (j:=0) rfl rfl rfl rfl α'83 Tk Az (by rfl) ?_
    have sp_4:=Fe.len_spec pa pc cb x.v.ck
    refine qM rfl rfl rfl rfl rfl rfl κ'29 (sp_4) Ts ?_
    rintro ⟨⟩ -
    try simp only [Ca,Na]
    refine qV (qX rfl rfl rfl rfl (qG (k:=2) rfl rfl rfl rfl υ'82 rfl ζ'3 rfl ?_))
    refine sK (j:=2) (k:=o.toNat) (q:=(some ⟨rb,0,none⟩,some ⟨wb,0,none⟩,x.v.ck.n,fg)) (enc:=encV) (off:=io67) rfl rfl rfl rfl ζ'3 (us:=[_]) rfl rfl rfl ha67 encV_len hv Tk (by first | rfl | exact (Ad _).symm | omega) (by first | decide | exact Nat.le_of_ble_eq_true rfl) (by rfl) ?_
    refine qV ?_
    have hq1:(V.set o.toNat (some ⟨rb,0,none⟩,some ⟨wb,0,none⟩,x.v.ck.n,fg))[o.toNat]?=some (some ⟨rb,0,none⟩,some ⟨wb,0,none⟩,x.v.ck.n,fg):=List.getElem?_set_self Om
    refine qX rfl rfl rfl rfl (qG (k:=3) rfl rfl rfl rfl υ'82 rfl ζ'4 rfl ?_)
    refine sK (j:=3) (k:=o.toNat) (q:=(some ⟨rb,0,none⟩,some ⟨wb,0,none⟩,x.v.ck.n,true)) (enc:=encV) (off:=io67) rfl rfl rfl rfl ζ'4 (us:=[_]) rfl rfl rfl ha67 encV_len hq1 Tk (by first | rfl | exact (Ad _).symm | omega) (by first | decide | exact Nat.le_of_ble_eq_true rfl) (by rfl) ?_
    refine qV ?_
    have hq2:((V.set o.toNat (some ⟨rb,0,none⟩,some ⟨wb,0,none⟩,x.v.ck.n,fg)).set o.toNat (some ⟨rb,0,none⟩,some ⟨wb,0,none⟩,x.v.ck.n,true))[o.toNat]?=some (some ⟨rb,0,none⟩,some ⟨wb,0,none⟩,x.v.ck.n,true):=List.getElem?_set_self (by simp;omega)
    refine qR (qW [0,3,7] (e':=[(0,_),(3,_),(7,_)]) rfl ?_)
    refine qQ (qL (qC (.q 0 (.q 1 (.q 2 (.q 3 (.q 4 (.done)))))) Kr ?_))
    refine qK rfl rfl rfl rfl (qX rfl rfl rfl rfl (qG (k:=0) rfl rfl rfl rfl υ'82 rfl ζ'79 rfl ?_))
    refine kS (v:=(.pointer (some ⟨rb,0,none⟩))) (j:=0) (k':=o.toNat) (enc:=encV) (off:=io67) rfl rfl rfl rfl α'79 ha67 encV_len hq2 Tk (by first | rfl | exact (Ad _).symm | omega) (by rfl) ?_
    refine qS rfl rfl rfl rfl (qR (qW [0,3,7,8] (e':=[(0,_),(3,_),(7,_),(8,_)]) rfl ?_))
    refine qQ (qL (qL (qC (.q 0 (.q 1 (.q 2 (.done)))) Kr ?_)))
    refine qG (k:=0) rfl rfl rfl rfl υ'47 rfl ζ'45 rfl ?_
    refine qP (j:=0) rfl rfl rfl rfl α'45 Tk Az (by rfl) ?_
    refine qB rfl rfl rfl rfl rfl (cP _ _ _ _) ?_
    refine qR (qQ ?_)
    refine qD rfl (fun h9=>?_) (fun h9=>by exfalso;omega)
    refine qC (.q 0 (.q 1 (.q 2 (.q 3 (.q 4 (.done)))))) Kr ?_
    refine qK rfl rfl rfl rfl (qX rfl rfl rfl rfl (qG (k:=1) rfl rfl rfl rfl υ'82 rfl ζ'79 rfl ?_))
    refine kS (v:=(.pointer (some ⟨wb,0,none⟩))) (j:=1) (k':=o.toNat) (enc:=encV) (off:=io67) rfl rfl rfl rfl α'79 ha67 encV_len hq2 Tk (by first | rfl | exact (Ad _).symm | omega) (by rfl) ?_
    refine qS rfl rfl rfl rfl (qR (qW [0,3,8] (e':=[(0,_),(3,_),(8,_)]) rfl ?_))
    refine qQ (kL rfl (.q 0 (.q 1 (.q 2 (.q 3 (.q 4 (.q 5 (.q 6 (.q 7 (.q 8 ((.l 9 [2] ((.l 10 [] (.done)))))))))))))) Kr ?_)
    refine qK rfl rfl rfl rfl (qG (k:=1) rfl rfl rfl rfl υ'47 rfl ζ'3 rfl ?_)
    refine qP (j:=1) rfl rfl rfl rfl α'3 Tk Az (by rfl) ?_
    refine qK rfl rfl rfl rfl (qX rfl rfl rfl rfl (qG (k:=0) rfl rfl rfl rfl υ'43 rfl ζ'40 rfl ?_))
    refine qP (j:=0) rfl rfl rfl rfl α'40 Tk Az (by rfl) ?_
    refine qG (k:=1) rfl rfl rfl rfl υ'47 rfl ζ'3 rfl ?_
    refine qP (j:=1) rfl rfl rfl rfl α'3 Tk Az (by rfl) ?_
    have sp_5:=clock_spec vb m1 (.pointer (some ⟨cb,0,none⟩)) (.slice po x.v.ck.pa.length poc) (.map (some m2)) (.map (some m3)) (.map (some m4)) F1 tb (ta) (tc) l t Om htF
    refine qM rfl rfl rfl rfl rfl rfl κ'31 (sp_5) Ts ?_
    rintro ⟨⟩ -
    try simp only [Ca,Na]
    refine qH (q:=1) rfl rfl rfl α'3 Tk Az (by rfl) ?_
    refine qV ?_
    have sp_6:=set_z wb w.2.1 wa w.2.1.length wc Ln hww t Om Om (l.getD t.toNat 0) (by exact hgr.1) (by exact hgr.2)
    refine qM rfl rfl rfl rfl rfl rfl κ'30 (sp_6) Ts ?_
    rintro ⟨za,zc⟩ -
    try simp only [Ca,Na]
    refine qV (qR (s_vecF rb ra rc w.1 Ts ?_))
    refine s_vecF wb za zc (stL w.2.1 t.toNat (l.getD t.toNat 0)) Ts ?_
    refine s_varF (some ⟨rb,0,none⟩,some ⟨wb,0,none⟩,x.v.ck.n,true) (w.1,(stL w.2.1 t.toNat (l.getD t.toNat 0)),x.v.ck.n,true) Ts rfl ?_
    refine cD (res:=varA) (V:=V) (Y:=x.vs) (S:=[]) o.toNat (some ⟨rb,0,none⟩,some ⟨wb,0,none⟩,x.v.ck.n,true) (w.1,(stL w.2.1 t.toNat (l.getD t.toNat 0)),x.v.ck.n,true) Ts (by simp) (List.getElem?_eq_some_iff.1 hv).1 Om ?_
    rw [set_set]
    refine qW [0,3] (e':=[(0,_),(3,_)]) rfl ?_
    refine qQ (cW (kK (qQ (qL (s_vecF tb ta tc l Ts ?_)))))
    refine cN (F:=F1) (T:=x.v.th) (S:=[]) t F1 x.v.th Ts (by simp) htF (fun _ _ _=>rfl) hth (fun _ _ _=>rfl) ?_
    refine vs_fold (b:=vb) x.v (pa:=pa) (pc:=pc) (po:=po) (poc:=poc) (cb:=cb) (m1:=m1) (m2:=m2) (m3:=m3) (m4:=m4) Ts (by rfl) (by rfl) ?_
    refine kL rfl (.q 0 (.q 1 (.q 2 (.q 3 (.q 4 ((.l 5 [] (.done)))))))) Kr ?_
    refine qK rfl rfl rfl rfl (qX rfl rfl rfl rfl (qG (k:=0) rfl rfl rfl rfl υ'43 rfl ζ'40 rfl ?_))
    refine qP (j:=0) rfl rfl rfl rfl α'40 Tk Az (by rfl) ?_
    refine kG rfl rfl rfl rfl α'47 ζ'47 Tk 0 (us:=[_,_,_]) Az rfl rfl ?_
    have sp_7:=next_spec pa pc po poc vb x.v hx.v hn pl hpl k t o hvc
    refine qM rfl rfl rfl rfl rfl rfl κ'32 (sp_7) Ts ?_
    rintro ⟨⟩ -
    try simp only [Ca,Na]
    refine qV (qR (qW [] (e':=[]) rfl ?_))
    refine qQ (qL (qC (.q 0 (.done)) Kr ?_))
    refine qS rfl rfl rfl rfl (qR (qQ (qJ ?_)))
    have hrc:raceF k l w:=.inl ⟨k2,hr1⟩
    have hacw:acW x.v.ck.n k t l w=(w.1,(stL w.2.1 t.toNat (l.getD t.toNat 0)),x.v.ck.n,true):=by
      unfold acW
      rw [if_pos k2,if_pos k2]
      have hfg2:fg=false:=by simpa using hfg
      rw [if_pos ⟨hrc,e2.trans hfg2⟩,decide_eq_true hrc,Bool.or_true]
    refine d_fold (b:=b) (deF x k t o) (pa:=pa) (pc:=pc) (po:=po) (poc:=poc) (vb:=vb) (va:=va) (vc:=vc) (V:=(V.set o.toNat (some ⟨rb,0,none⟩,some ⟨wb,0,none⟩,x.v.ck.n,true))) Ts (by rw [de_acc hvc Om hw hth,hacw];congr 1;omega) (by simp) (by first | exact (by simp [hV]) | simp) ?_
    refine kD rfl rfl (()) (by rw [show deE x k t o=0 from if_pos hvc]) (by trivial) ?_
    exact Tf
   try simp only [Bool.and_eq_true,Bool.or_eq_true,Bool.not_eq_true',Bool.not_eq_false',Bool.and_eq_false_iff,Bool.or_eq_false_iff,decide_eq_true_eq,decide_eq_false_iff_not] at hfg
   refine qF (qQ (qL (qC (.q 0 (.q 1 (.q 2 (.q 3 (.q 4 (.done)))))) Kr ?_)))
   refine qK rfl rfl rfl rfl (qX rfl rfl rfl rfl (qG (k:=0) rfl rfl rfl rfl υ'82 rfl ζ'79 rfl ?_))
   refine kS (v:=(.pointer (some ⟨rb,0,none⟩))) (j:=0) (k':=o.toNat) (enc:=encV) (off:=io67) rfl rfl rfl rfl α'79 ha67 encV_len hv Tk (by first | rfl | exact (Ad _).symm | omega) (by rfl) ?_
   refine qS rfl rfl rfl rfl (qR (qW [0,3,7,8] (e':=[(0,_),(3,_),(7,_),(8,_)]) rfl ?_))
   refine qQ (qL (qL (qC (.q 0 (.q 1 (.q 2 (.done)))) Kr ?_)))
   refine qG (k:=0) rfl rfl rfl rfl υ'47 rfl ζ'45 rfl ?_
   refine qP (j:=0) rfl rfl rfl rfl α'45 Tk Az (by rfl) ?_
   refine qB rfl rfl rfl rfl rfl (cP _ _ _ _) ?_
   refine qR (qQ ?_)
   refine qD rfl (fun h9=>?_) (fun h9=>by exfalso;omega)
   refine qC (.q 0 (.q 1 (.q 2 (.q 3 (.q 4 (.done)))))) Kr ?_
   refine qK rfl rfl rfl rfl (qX rfl rfl rfl rfl (qG (k:=1) rfl rfl rfl rfl υ'82 rfl ζ'79 rfl ?_))
   refine kS (v:=(.pointer (some ⟨wb,0,none⟩))) (j:=1) (k':=o.toNat) (enc:=encV) (off:=io67) rfl rfl rfl rfl α'79 ha67 encV_len hv Tk (by first | rfl | exact (Ad _).symm | omega) (by rfl) ?_
   refine qS rfl rfl rfl rfl (qR (qW [0,3,8] (e':=[(0,_),(3,_),(8,_)]) rfl ?_))
   refine qQ (kL rfl (.q 0 (.q 1 (.q 2 (.q 3 (.q 4 (.q 5 (.q 6 (.q 7 (.q 8 ((.l 9 [2] ((.l 10 [] (.done)))))))))))))) Kr ?_)
   refine qK rfl rfl rfl rfl (qG (k:=1) rfl rfl rfl rfl υ'47 rfl ζ'3 rfl ?_)
   refine qP (j:=1) rfl rfl rfl rfl α'3 Tk Az (by rfl) ?_
   refine qK rfl rfl rfl rfl (qX rfl rfl rfl rfl (qG (k:=0) rfl rfl rfl rfl υ'43 rfl ζ'40 rfl ?_))
   refine qP (j:=0) rfl rfl rfl rfl α'40 Tk Az (by rfl) ?_
   refine qG (k:=1) rfl rfl rfl rfl υ'47 rfl ζ'3 rfl ?_
   refine qP (j:=1) rfl rfl rfl rfl α'3 Tk Az (by rfl) ?_
   have sp_8:=clock_spec vb m1 (.pointer (some ⟨cb,0,none⟩)) (.slice po x.v.ck.pa.length poc) (.map (some m2)) (.map (some m3)) (.map (some m4)) F1 tb (ta) (tc) l t Om htF
   refine qM rfl rfl rfl rfl rfl rfl κ'31 (sp_8) Ts ?_
   rintro ⟨⟩ -
   try simp only [Ca,Na]
   refine qH (q:=1) rfl rfl rfl α'3 Tk Az (by rfl) ?_
   refine qV ?_
   have sp_9:=set_z wb w.2.1 wa w.2.1.length wc Ln hww t Om Om (l.getD t.toNat 0) (by exact hgr.1) (by exact hgr.2)
   refine qM rfl rfl rfl rfl rfl rfl κ'30 (sp_9) Ts ?_
   rintro ⟨za,zc⟩ -
   try simp only [Ca,Na]
   refine qV (qR (s_vecF rb ra rc w.1 Ts ?_))
   refine s_vecF wb za zc (stL w.2.1 t.toNat (l.getD t.toNat 0)) Ts ?_
   refine s_varF (some ⟨rb,0,none⟩,some ⟨wb,0,none⟩,fl,fg) (w.1,(stL w.2.1 t.toNat (l.getD t.toNat 0)),fl,fg) Ts rfl ?_
   refine cD (res:=varA) (V:=V) (Y:=x.vs) (S:=[]) o.toNat (some ⟨rb,0,none⟩,some ⟨wb,0,none⟩,fl,fg) (w.1,(stL w.2.1 t.toNat (l.getD t.toNat 0)),fl,fg) Ts (by simp) (List.getElem?_eq_some_iff.1 hv).1 Om ?_
   rw [set_same hv]
   refine qW [0,3] (e':=[(0,_),(3,_)]) rfl ?_
   refine qQ (cW (kK (qQ (qL (s_vecF tb ta tc l Ts ?_)))))
   refine cN (F:=F1) (T:=x.v.th) (S:=[]) t F1 x.v.th Ts (by simp) htF (fun _ _ _=>rfl) hth (fun _ _ _=>rfl) ?_
   refine vs_fold (b:=vb) x.v (pa:=pa) (pc:=pc) (po:=po) (poc:=poc) (cb:=cb) (m1:=m1) (m2:=m2) (m3:=m3) (m4:=m4) Ts (by rfl) (by rfl) ?_
   refine kL rfl (.q 0 (.q 1 (.q 2 (.q 3 (.q 4 ((.l 5 [] (.done)))))))) Kr ?_
   refine qK rfl rfl rfl rfl (qX rfl rfl rfl rfl (qG (k:=0) rfl rfl rfl rfl υ'43 rfl ζ'40 rfl ?_))
   refine qP (j:=0) rfl rfl rfl rfl α'40 Tk Az (by rfl) ?_
   refine kG rfl rfl rfl rfl α'47 ζ'47 Tk 0 (us:=[_,_,_]) Az rfl rfl ?_
   have sp_10:=next_spec pa pc po poc vb x.v hx.v hn pl hpl k t o hvc
   refine qM rfl rfl rfl rfl rfl rfl κ'32 (sp_10) Ts ?_
   rintro ⟨⟩ -
   try simp only [Ca,Na]
   refine qV (qR (qW [] (e':=[]) rfl ?_))
   refine qQ (qL (qC (.q 0 (.done)) Kr ?_))
   refine qS rfl rfl rfl rfl (qR (qQ (qJ ?_)))
   have hrc:raceF k l w:=.inl ⟨k2,hr1⟩
   have hacw:acW x.v.ck.n k t l w=(w.1,(stL w.2.1 t.toNat (l.getD t.toNat 0)),fl,fg):=by
     unfold acW
     rw [if_pos k2,if_pos k2]
     have hfg2:fg=true:=by simpa using hfg
     rw [if_neg (fun h=>by rw [e2,hfg2] at h;exact absurd h.2 (by decide)),e1,e2,hfg2,Bool.true_or]
   refine d_fold (b:=b) (deF x k t o) (pa:=pa) (pc:=pc) (po:=po) (poc:=poc) (vb:=vb) (va:=va) (vc:=vc) (V:=V) Ts (by rw [de_acc hvc Om hw hth,hacw];congr 1;omega) (by simp) (by first | exact (by simp [hV]) | simp) ?_
   refine kD rfl rfl (()) (by rw [show deE x k t o=0 from if_pos hvc]) (by trivial) ?_
   exact Tf
  refine qK rfl rfl rfl rfl (qX rfl rfl rfl rfl (qG (k:=1) rfl rfl rfl rfl υ'82 rfl ζ'79 rfl ?_))
  refine kS (v:=(.pointer (some ⟨wb,0,none⟩))) (j:=1) (k':=o.toNat) (enc:=encV) (off:=io67) rfl rfl rfl rfl α'79 ha67 encV_len hv Tk (by first | rfl | exact (Ad _).symm | omega) (by rfl) ?_
  refine qK rfl rfl rfl rfl ?_
  have sp_11:=Vc.leq_spec wb tb w.2.1 l wa ta w.2.1.length wc l.length tc (by rfl) (by rfl) hww hlc
  refine qM rfl rfl rfl rfl rfl rfl Tryz.call28 (sp_11) Ts ?_
  rintro ⟨⟩ -
  try simp only [Ca,Na]
  refine qV (sY rfl rfl rfl rfl ?_)
  refine kN rfl rfl rfl rfl rfl (qS rfl rfl rfl rfl (qR (qW [0,3,5,7] (e':=[(0,_),(3,_),(5,_),(7,_)]) rfl ?_)))
  refine qQ (qL (qL (qC (.q 0 (.q 1 (.q 2 (.q 3 (.q 4 (.q 5 (.q 6 (.q 7 (.done))))))))) Kr ?_)))
  refine qK rfl rfl rfl rfl (qK rfl rfl rfl rfl ?_)
  refine s_bool_np 79 rfl (fun hr2=>?_) (fun hr2=>?_)
  ·
   refine qK rfl rfl rfl rfl (qX rfl rfl rfl rfl (qG (k:=3) rfl rfl rfl rfl υ'82 rfl ζ'4 rfl ?_))
   refine kS (v:=(.bool fg)) (j:=3) (k':=o.toNat) (enc:=encV) (off:=io67) rfl rfl rfl rfl α'4 ha67 encV_len hv Tk (by first | rfl | exact (Ad _).symm | omega) (by rfl) ?_
   refine sY rfl rfl rfl rfl ?_
   refine kW rfl rfl rfl rfl rfl (qR (qW [0,3,7,85] (e':=[(0,_),(3,_),(7,_),(85,_)]) rfl ?_))
   refine qQ ?_
   refine c_cond rfl (fun hfg=>?_) (fun hfg=>?_)
   ·
    try simp only [Bool.and_eq_true,Bool.or_eq_true,Bool.not_eq_true',Bool.not_eq_false',Bool.and_eq_false_iff,Bool.or_eq_false_iff,decide_eq_true_eq,decide_eq_false_iff_not] at hfg
    refine qC (.q 0 (.q 1 (.q 2 (.q 3 (.q 4 (.q 5 (.q 6 (.q 7 (.q 8 ((.l 9 [] (.q 10 (.q 11 ((.l 12 [] (.q 13 (.q 14 ((.l 15 [] (.done)))))))))))))))))))) Kr ?_
    refine qK rfl rfl rfl rfl (qK rfl rfl rfl rfl (qK rfl rfl rfl rfl (qX rfl rfl rfl rfl (qG (k:=0) rfl rfl rfl rfl υ'43 rfl ζ'40 rfl ?_))))
    refine qP (j:=0) rfl rfl rfl rfl α'40 Tk Az (by rfl) ?_
    refine qX rfl rfl rfl rfl (qG (k:=0) rfl rfl rfl rfl υ'87 rfl ζ'83 rfl ?_)
    refine qP (j:=0) rfl rfl rfl rfl α'83 Tk Az (by rfl) ?_
    have sp_12:=Fe.len_spec pa pc cb x.v.ck
    refine qM rfl rfl rfl rfl rfl rfl κ'29 (sp_12) Ts ?_
    rintro ⟨⟩ -
    try simp only [Ca,Na]
    refine qV (qX rfl rfl rfl rfl (qG (k:=2) rfl rfl rfl rfl υ'82 rfl ζ'3 rfl ?_))
    refine sK (j:=2) (k:=o.toNat) (q:=(some ⟨rb,0,none⟩,some ⟨wb,0,none⟩,x.v.ck.n,fg)) (enc:=encV) (off:=io67) rfl rfl rfl rfl ζ'3 (us:=[_]) rfl rfl rfl ha67 encV_len hv Tk (by first | rfl | exact (Ad _).symm | omega) (by first | decide | exact Nat.le_of_ble_eq_true rfl) (by rfl) ?_
    refine qV ?_
    have hq1:(V.set o.toNat (some ⟨rb,0,none⟩,some ⟨wb,0,none⟩,x.v.ck.n,fg))[o.toNat]?=some (some ⟨rb,0,none⟩,some ⟨wb,0,none⟩,x.v.ck.n,fg):=List.getElem?_set_self Om
    refine qX rfl rfl rfl rfl (qG (k:=3) rfl rfl rfl rfl υ'82 rfl ζ'4 rfl ?_)
    refine sK (j:=3) (k:=o.toNat) (q:=(some ⟨rb,0,none⟩,some ⟨wb,0,none⟩,x.v.ck.n,true)) (enc:=encV) (off:=io67) rfl rfl rfl rfl ζ'4 (us:=[_]) rfl rfl rfl ha67 encV_len hq1 Tk (by first | rfl | exact (Ad _).symm | omega) (by first | decide | exact Nat.le_of_ble_eq_true rfl) (by rfl) ?_
    refine qV ?_
    have hq2:((V.set o.toNat (some ⟨rb,0,none⟩,some ⟨wb,0,none⟩,x.v.ck.n,fg)).set o.toNat (some ⟨rb,0,none⟩,some ⟨wb,0,none⟩,x.v.ck.n,true))[o.toNat]?=some (some ⟨rb,0,none⟩,some ⟨wb,0,none⟩,x.v.ck.n,true):=List.getElem?_set_self (by simp;omega)
    refine qR (qW [0,3,7] (e':=[(0,_),(3,_),(7,_)]) rfl ?_)
    refine qQ (qL (qC (.q 0 (.q 1 (.q 2 (.q 3 (.q 4 (.done)))))) Kr ?_))
    refine qK rfl rfl rfl rfl (qX rfl rfl rfl rfl (qG (k:=0) rfl rfl rfl rfl υ'82 rfl ζ'79 rfl ?_))
    refine kS (v:=(.pointer (some ⟨rb,0,none⟩))) (j:=0) (k':=o.toNat) (enc:=encV) (off:=io67) rfl rfl rfl rfl α'79 ha67 encV_len hq2 Tk (by first | rfl | exact (Ad _).symm | omega) (by rfl) ?_
    refine qS rfl rfl rfl rfl (qR (qW [0,3,7,8] (e':=[(0,_),(3,_),(7,_),(8,_)]) rfl ?_))
    refine qQ (qL (qL (qC (.q 0 (.q 1 (.q 2 (.done)))) Kr ?_)))
    refine qG (k:=0) rfl rfl rfl rfl υ'47 rfl ζ'45 rfl ?_
    refine qP (j:=0) rfl rfl rfl rfl α'45 Tk Az (by rfl) ?_
    refine qB rfl rfl rfl rfl rfl (cP _ _ _ _) ?_
    refine qR (qQ ?_)
    refine qD rfl (fun h9=>?_) (fun h9=>by exfalso;omega)
    refine qC (.q 0 (.q 1 (.q 2 (.q 3 (.q 4 (.done)))))) Kr ?_
    refine qK rfl rfl rfl rfl (qX rfl rfl rfl rfl (qG (k:=1) rfl rfl rfl rfl υ'82 rfl ζ'79 rfl ?_))
    refine kS (v:=(.pointer (some ⟨wb,0,none⟩))) (j:=1) (k':=o.toNat) (enc:=encV) (off:=io67) rfl rfl rfl rfl α'79 ha67 encV_len hq2 Tk (by first | rfl | exact (Ad _).symm | omega) (by rfl) ?_
    refine qS rfl rfl rfl rfl (qR (qW [0,3,8] (e':=[(0,_),(3,_),(8,_)]) rfl ?_))
    refine qQ (kL rfl (.q 0 (.q 1 (.q 2 (.q 3 (.q 4 (.q 5 (.q 6 (.q 7 (.q 8 ((.l 9 [2] ((.l 10 [] (.done)))))))))))))) Kr ?_)
    refine qK rfl rfl rfl rfl (qG (k:=1) rfl rfl rfl rfl υ'47 rfl ζ'3 rfl ?_)
    refine qP (j:=1) rfl rfl rfl rfl α'3 Tk Az (by rfl) ?_
    refine qK rfl rfl rfl rfl (qX rfl rfl rfl rfl (qG (k:=0) rfl rfl rfl rfl υ'43 rfl ζ'40 rfl ?_))
    refine qP (j:=0) rfl rfl rfl rfl α'40 Tk Az (by rfl) ?_
    refine qG (k:=1) rfl rfl rfl rfl υ'47 rfl ζ'3 rfl ?_
    refine qP (j:=1) rfl rfl rfl rfl α'3 Tk Az (by rfl) ?_
    have sp_13:=clock_spec vb m1 (.pointer (some ⟨cb,0,none⟩)) (.slice po x.v.ck.pa.length poc) (.map (some m2)) (.map (some m3)) (.map (some m4)) F1 tb (ta) (tc) l t Om htF
    refine qM rfl rfl rfl rfl rfl rfl κ'31 (sp_13) Ts ?_
    rintro ⟨⟩ -
    try simp only [Ca,Na]
    refine qH (q:=1) rfl rfl rfl α'3 Tk Az (by rfl) ?_
    refine qV ?_
    have sp_14:=set_z wb w.2.1 wa w.2.1.length wc Ln hww t Om Om (l.getD t.toNat 0) (by exact hgr.1) (by exact hgr.2)
    refine qM rfl rfl rfl rfl rfl rfl κ'30 (sp_14) Ts ?_
    rintro ⟨za,zc⟩ -
    try simp only [Ca,Na]
    refine qV (qR (s_vecF rb ra rc w.1 Ts ?_))
    refine s_vecF wb za zc (stL w.2.1 t.toNat (l.getD t.toNat 0)) Ts ?_
    refine s_varF (some ⟨rb,0,none⟩,some ⟨wb,0,none⟩,x.v.ck.n,true) (w.1,(stL w.2.1 t.toNat (l.getD t.toNat 0)),x.v.ck.n,true) Ts rfl ?_
    refine cD (res:=varA) (V:=V) (Y:=x.vs) (S:=[]) o.toNat (some ⟨rb,0,none⟩,some ⟨wb,0,none⟩,x.v.ck.n,true) (w.1,(stL w.2.1 t.toNat (l.getD t.toNat 0)),x.v.ck.n,true) Ts (by simp) (List.getElem?_eq_some_iff.1 hv).1 Om ?_
    rw [set_set]
    refine qW [0,3] (e':=[(0,_),(3,_)]) rfl ?_
    refine qQ (cW (kK (qQ (qL (s_vecF tb ta tc l Ts ?_)))))
    refine cN (F:=F1) (T:=x.v.th) (S:=[]) t F1 x.v.th Ts (by simp) htF (fun _ _ _=>rfl) hth (fun _ _ _=>rfl) ?_
    refine vs_fold (b:=vb) x.v (pa:=pa) (pc:=pc) (po:=po) (poc:=poc) (cb:=cb) (m1:=m1) (m2:=m2) (m3:=m3) (m4:=m4) Ts (by rfl) (by rfl) ?_
    refine kL rfl (.q 0 (.q 1 (.q 2 (.q 3 (.q 4 ((.l 5 [] (.done)))))))) Kr ?_
    refine qK rfl rfl rfl rfl (qX rfl rfl rfl rfl (qG (k:=0) rfl rfl rfl rfl υ'43 rfl ζ'40 rfl ?_))
    refine qP (j:=0) rfl rfl rfl rfl α'40 Tk Az (by rfl) ?_
    refine kG rfl rfl rfl rfl α'47 ζ'47 Tk 0 (us:=[_,_,_]) Az rfl rfl ?_
    have sp_15:=next_spec pa pc po poc vb x.v hx.v hn pl hpl k t o hvc
    refine qM rfl rfl rfl rfl rfl rfl κ'32 (sp_15) Ts ?_
    rintro ⟨⟩ -
    try simp only [Ca,Na]
    refine qV (qR (qW [] (e':=[]) rfl ?_))
    refine qQ (qL (qC (.q 0 (.done)) Kr ?_))
    refine qS rfl rfl rfl rfl (qR (qQ (qJ ?_)))
    have hrc:raceF k l w:=.inr hr2
    have hacw:acW x.v.ck.n k t l w=(w.1,(stL w.2.1 t.toNat (l.getD t.toNat 0)),x.v.ck.n,true):=by
      unfold acW
      rw [if_pos k2,if_pos k2]
      have hfg2:fg=false:=by simpa using hfg
      rw [if_pos ⟨hrc,e2.trans hfg2⟩,decide_eq_true hrc,Bool.or_true]
    refine d_fold (b:=b) (deF x k t o) (pa:=pa) (pc:=pc) (po:=po) (poc:=poc) (vb:=vb) (va:=va) (vc:=vc) (V:=(V.set o.toNat (some ⟨rb,0,none⟩,some ⟨wb,0,none⟩,x.v.ck.n,true))) Ts (by rw [de_acc hvc Om hw hth,hacw];congr 1;omega) (by simp) (by first | exact (by simp [hV]) | simp) ?_
    refine kD rfl rfl (()) (by rw [show deE x k t o=0 from if_pos hvc]) (by trivial) ?_
    exact Tf
   try simp only [Bool.and_eq_true,Bool.or_eq_true,Bool.not_eq_true',Bool.not_eq_false',Bool.and_eq_false_iff,Bool.or_eq_false_iff,decide_eq_true_eq,decide_eq_false_iff_not] at hfg
   refine qF (qQ (qL (qC (.q 0 (.q 1 (.q 2 (.q 3 (.q 4 (.done)))))) Kr ?_)))
   refine qK rfl rfl rfl rfl (qX rfl rfl rfl rfl (qG (k:=0) rfl rfl rfl rfl υ'82 rfl ζ'79 rfl ?_))
   refine kS (v:=(.pointer (some ⟨rb,0,none⟩))) (j:=0) (k':=o.toNat) (enc:=encV) (off:=io67) rfl rfl rfl rfl α'79 ha67 encV_len hv Tk (by first | rfl | exact (Ad _).symm | omega) (by rfl) ?_
   refine qS rfl rfl rfl rfl (qR (qW [0,3,7,8] (e':=[(0,_),(3,_),(7,_),(8,_)]) rfl ?_))
   refine qQ (qL (qL (qC (.q 0 (.q 1 (.q 2 (.done)))) Kr ?_)))
   refine qG (k:=0) rfl rfl rfl rfl υ'47 rfl ζ'45 rfl ?_
   refine qP (j:=0) rfl rfl rfl rfl α'45 Tk Az (by rfl) ?_
   refine qB rfl rfl rfl rfl rfl (cP _ _ _ _) ?_
   refine qR (qQ ?_)
   refine qD rfl (fun h9=>?_) (fun h9=>by exfalso;omega)
   refine qC (.q 0 (.q 1 (.q 2 (.q 3 (.q 4 (.done)))))) Kr ?_
   refine qK rfl rfl rfl rfl (qX rfl rfl rfl rfl (qG (k:=1) rfl rfl rfl rfl υ'82 rfl ζ'79 rfl ?_))
   refine kS (v:=(.pointer (some ⟨wb,0,none⟩))) (j:=1) (k':=o.toNat) (enc:=encV) (off:=io67) rfl rfl rfl rfl α'79 ha67 encV_len hv Tk (by first | rfl | exact (Ad _).symm | omega) (by rfl) ?_
   refine qS rfl rfl rfl rfl (qR (qW [0,3,8] (e':=[(0,_),(3,_),(8,_)]) rfl ?_))
   refine qQ (kL rfl (.q 0 (.q 1 (.q 2 (.q 3 (.q 4 (.q 5 (.q 6 (.q 7 (.q 8 ((.l 9 [2] ((.l 10 [] (.done)))))))))))))) Kr ?_)
   refine qK rfl rfl rfl rfl (qG (k:=1) rfl rfl rfl rfl υ'47 rfl ζ'3 rfl ?_)
   refine qP (j:=1) rfl rfl rfl rfl α'3 Tk Az (by rfl) ?_
   refine qK rfl rfl rfl rfl (qX rfl rfl rfl rfl (qG (k:=0) rfl rfl rfl rfl υ'43 rfl ζ'40 rfl ?_))
   refine qP (j:=0) rfl rfl rfl rfl α'40 Tk Az (by rfl) ?_
   refine qG (k:=1) rfl rfl rfl rfl υ'47 rfl ζ'3 rfl ?_
   refine qP (j:=1) rfl rfl rfl rfl α'3 Tk Az (by rfl) ?_
   have sp_16:=clock_spec vb m1 (.pointer (some ⟨cb,0,none⟩)) (.slice po x.v.ck.pa.length poc) (.map (some m2)) (.map (some m3)) (.map (some m4)) F1 tb (ta) (tc) l t Om htF
   refine qM rfl rfl rfl rfl rfl rfl κ'31 (sp_16) Ts ?_
   rintro ⟨⟩ -
   try simp only [Ca,Na]
   refine qH (q:=1) rfl rfl rfl α'3 Tk Az (by rfl) ?_
   refine qV ?_
   have sp_17:=set_z wb w.2.1 wa w.2.1.length wc Ln hww t Om Om (l.getD t.toNat 0) (by exact hgr.1) (by exact hgr.2)
   refine qM rfl rfl rfl rfl rfl rfl κ'30 (sp_17) Ts ?_
   rintro ⟨za,zc⟩ -
   try simp only [Ca,Na]
   refine qV (qR (s_vecF rb ra rc w.1 Ts ?_))
   refine s_vecF wb za zc (stL w.2.1 t.toNat (l.getD t.toNat 0)) Ts ?_
   refine s_varF (some ⟨rb,0,none⟩,some ⟨wb,0,none⟩,fl,fg) (w.1,(stL w.2.1 t.toNat (l.getD t.toNat 0)),fl,fg) Ts rfl ?_
   refine cD (res:=varA) (V:=V) (Y:=x.vs) (S:=[]) o.toNat (some ⟨rb,0,none⟩,some ⟨wb,0,none⟩,fl,fg) (w.1,(stL w.2.1 t.toNat (l.getD t.toNat 0)),fl,fg) Ts (by simp) (List.getElem?_eq_some_iff.1 hv).1 Om ?_
   rw [set_same hv]
   refine qW [0,3] (e':=[(0,_),(3,_)]) rfl ?_
   refine qQ (cW (kK (qQ (qL (s_vecF tb ta tc l Ts ?_)))))
   refine cN (F:=F1) (T:=x.v.th) (S:=[]) t F1 x.v.th Ts (by simp) htF (fun _ _ _=>rfl) hth (fun _ _ _=>rfl) ?_
   refine vs_fold (b:=vb) x.v (pa:=pa) (pc:=pc) (po:=po) (poc:=poc) (cb:=cb) (m1:=m1) (m2:=m2) (m3:=m3) (m4:=m4) Ts (by rfl) (by rfl) ?_
   refine kL rfl (.q 0 (.q 1 (.q 2 (.q 3 (.q 4 ((.l 5 [] (.done)))))))) Kr ?_
   refine qK rfl rfl rfl rfl (qX rfl rfl rfl rfl (qG (k:=0) rfl rfl rfl rfl υ'43 rfl ζ'40 rfl ?_))
   refine qP (j:=0) rfl rfl rfl rfl α'40 Tk Az (by rfl) ?_
   refine kG rfl rfl rfl rfl α'47 ζ'47 Tk 0 (us:=[_,_,_]) Az rfl rfl ?_
   have sp_18:=next_spec pa pc po poc vb x.v hx.v hn pl hpl k t o hvc
   refine qM rfl rfl rfl rfl rfl rfl κ'32 (sp_18) Ts ?_
   rintro ⟨⟩ -
   try simp only [Ca,Na]
   refine qV (qR (qW [] (e':=[]) rfl ?_))
   refine qQ (qL (qC (.q 0 (.done)) Kr ?_))
   refine qS rfl rfl rfl rfl (qR (qQ (qJ ?_)))
   have hrc:raceF k l w:=.inr hr2
   have hacw:acW x.v.ck.n k t l w=(w.1,(stL w.2.1 t.toNat (l.getD t.toNat 0)),fl,fg):=by
     unfold acW
     rw [if_pos k2,if_pos k2]
     have hfg2:fg=true:=by simpa using hfg
     rw [if_neg (fun h=>by rw [e2,hfg2] at h;exact absurd h.2 (by decide)),e1,e2,hfg2,Bool.true_or]
   refine d_fold (b:=b) (deF x k t o) (pa:=pa) (pc:=pc) (po:=po) (poc:=poc) (vb:=vb) (va:=va) (vc:=vc) (V:=V) Ts (by rw [de_acc hvc Om hw hth,hacw];congr 1;omega) (by simp) (by first | exact (by simp [hV]) | simp) ?_
   refine kD rfl rfl (()) (by rw [show deE x k t o=0 from if_pos hvc]) (by trivial) ?_
   exact Tf
  refine qZ rfl rfl rfl rfl (qZ rfl rfl rfl rfl (qZ rfl rfl rfl rfl (qZ rfl rfl rfl rfl (qZ rfl rfl rfl rfl (kN rfl rfl rfl rfl rfl (qR (qW [0,3,7,85] (e':=[(0,_),(3,_),(7,_),(85,_)]) rfl ?_)))))))
  refine qQ (kZ rfl ?_)
  refine qF (qQ (qL (qC (.q 0 (.q 1 (.q 2 (.q 3 (.q 4 (.done)))))) Kr ?_)))
  refine qK rfl rfl rfl rfl (qX rfl rfl rfl rfl (qG (k:=0) rfl rfl rfl rfl υ'82 rfl ζ'79 rfl ?_))
  refine kS (v:=(.pointer (some ⟨rb,0,none⟩))) (j:=0) (k':=o.toNat) (enc:=encV) (off:=io67) rfl rfl rfl rfl α'79 ha67 encV_len hv Tk (by first | rfl | exact (Ad _).symm | omega) (by rfl) ?_
  refine qS rfl rfl rfl rfl (qR (qW [0,3,7,8] (e':=[(0,_),(3,_),(7,_),(8,_)]) rfl ?_))
  refine qQ (qL (qL (qC (.q 0 (.q 1 (.q 2 (.done)))) Kr ?_)))
  refine qG (k:=0) rfl rfl rfl rfl υ'47 rfl ζ'45 rfl ?_
  refine qP (j:=0) rfl rfl rfl rfl α'45 Tk Az (by rfl) ?_
  refine qB rfl rfl rfl rfl rfl (cP _ _ _ _) ?_
  refine qR (qQ ?_)
  refine qD rfl (fun h9=>?_) (fun h9=>by exfalso;omega)
  refine qC (.q 0 (.q 1 (.q 2 (.q 3 (.q 4 (.done)))))) Kr ?_
  refine qK rfl rfl rfl rfl (qX rfl rfl rfl rfl (qG (k:=1) rfl rfl rfl rfl υ'82 rfl ζ'79 rfl ?_))
  refine kS (v:=(.pointer (some ⟨wb,0,none⟩))) (j:=1) (k':=o.toNat) (enc:=encV) (off:=io67) rfl rfl rfl rfl α'79 ha67 encV_len hv Tk (by first | rfl | exact (Ad _).symm | omega) (by rfl) ?_
  refine qS rfl rfl rfl rfl (qR (qW [0,3,8] (e':=[(0,_),(3,_),(8,_)]) rfl ?_))
  refine qQ (kL rfl (.q 0 (.q 1 (.q 2 (.q 3 (.q 4 (.q 5 (.q 6 (.q 7 (.q 8 ((.l 9 [2] ((.l 10 [] (.done)))))))))))))) Kr ?_)
  refine qK rfl rfl rfl rfl (qG (k:=1) rfl rfl rfl rfl υ'47 rfl ζ'3 rfl ?_)
  refine qP (j:=1) rfl rfl rfl rfl α'3 Tk Az (by rfl) ?_
  refine qK rfl rfl rfl rfl (qX rfl rfl rfl rfl (qG (k:=0) rfl rfl rfl rfl υ'43 rfl ζ'40 rfl ?_))
  refine qP (j:=0) rfl rfl rfl rfl α'40 Tk Az (by rfl) ?_
  refine qG (k:=1) rfl rfl rfl rfl υ'47 rfl ζ'3 rfl ?_
  refine qP (j:=1) rfl rfl rfl rfl α'3 Tk Az (by rfl) ?_
  have sp_19:=clock_spec vb m1 (.pointer (some ⟨cb,0,none⟩)) (.slice po x.v.ck.pa.length poc) (.map (some m2)) (.map (some m3)) (.map (some m4)) F1 tb (ta) (tc) l t Om htF
  refine qM rfl rfl rfl rfl rfl rfl κ'31 (sp_19) Ts ?_
  rintro ⟨⟩ -
  try simp only [Ca,Na]
  refine qH (q:=1) rfl rfl rfl α'3 Tk Az (by rfl) ?_
  refine qV ?_
  have sp_20:=set_z wb w.2.1 wa w.2.1.length wc Ln hww t Om Om (l.getD t.toNat 0) (by exact hgr.1) (by exact hgr.2)
  refine qM rfl rfl rfl rfl rfl rfl κ'30 (sp_20) Ts ?_
  rintro ⟨za,zc⟩ -
  try simp only [Ca,Na]
  refine qV (qR (s_vecF rb ra rc w.1 Ts ?_))
  refine s_vecF wb za zc (stL w.2.1 t.toNat (l.getD t.toNat 0)) Ts ?_
  refine s_varF (some ⟨rb,0,none⟩,some ⟨wb,0,none⟩,fl,fg) (w.1,(stL w.2.1 t.toNat (l.getD t.toNat 0)),fl,fg) Ts rfl ?_
  refine cD (res:=varA) (V:=V) (Y:=x.vs) (S:=[]) o.toNat (some ⟨rb,0,none⟩,some ⟨wb,0,none⟩,fl,fg) (w.1,(stL w.2.1 t.toNat (l.getD t.toNat 0)),fl,fg) Ts (by simp) (List.getElem?_eq_some_iff.1 hv).1 Om ?_
  rw [set_same hv]
  refine qW [0,3] (e':=[(0,_),(3,_)]) rfl ?_
  refine qQ (cW (kK (qQ (qL (s_vecF tb ta tc l Ts ?_)))))
  refine cN (F:=F1) (T:=x.v.th) (S:=[]) t F1 x.v.th Ts (by simp) htF (fun _ _ _=>rfl) hth (fun _ _ _=>rfl) ?_
  refine vs_fold (b:=vb) x.v (pa:=pa) (pc:=pc) (po:=po) (poc:=poc) (cb:=cb) (m1:=m1) (m2:=m2) (m3:=m3) (m4:=m4) Ts (by rfl) (by rfl) ?_
  refine kL rfl (.q 0 (.q 1 (.q 2 (.q 3 (.q 4 ((.l 5 [] (.done)))))))) Kr ?_
  refine qK rfl rfl rfl rfl (qX rfl rfl rfl rfl (qG (k:=0) rfl rfl rfl rfl υ'43 rfl ζ'40 rfl ?_))
  refine qP (j:=0) rfl rfl rfl rfl α'40 Tk Az (by rfl) ?_
  refine kG rfl rfl rfl rfl α'47 ζ'47 Tk 0 (us:=[_,_,_]) Az rfl rfl ?_
  have sp_21:=next_spec pa pc po poc vb x.v hx.v hn pl hpl k t o hvc
  refine qM rfl rfl rfl rfl rfl rfl κ'32 (sp_21) Ts ?_
  rintro ⟨⟩ -
  try simp only [Ca,Na]
  refine qV (qR (qW [] (e':=[]) rfl ?_))
  refine qQ (qL (qC (.q 0 (.done)) Kr ?_))
  refine qS rfl rfl rfl rfl (qR (qQ (qJ ?_)))
  have hrc:¬ raceF k l w:=by
    rintro (⟨h8,h9⟩ | h9)
    · first | exact h9 (Classical.byContradiction hr1) | exact absurd (k1.symm.trans h8) (by decide) | exact hr1 h9 | exact h9 hr1
    · first | exact h9 (Classical.byContradiction hr2) | exact hr2 h9 | exact h9 hr2
  have hacw:acW x.v.ck.n k t l w=(w.1,(stL w.2.1 t.toNat (l.getD t.toNat 0)),fl,fg):=by
    unfold acW
    rw [if_pos k2,if_pos k2]
    rw [if_neg (fun h=>hrc h.1),e1,e2,decide_eq_false hrc,Bool.or_false]
  refine d_fold (b:=b) (deF x k t o) (pa:=pa) (pc:=pc) (po:=po) (poc:=poc) (vb:=vb) (va:=va) (vc:=vc) (V:=V) Ts (by rw [de_acc hvc Om hw hth,hacw];congr 1;omega) (by simp) (by first | exact (by simp [hV]) | simp) ?_
  refine kD rfl rfl (()) (by rw [show deE x k t o=0 from if_pos hvc]) (by trivial) ?_
  exact Tf
 refine qF (qQ (qL (qC (.q 0 (.q 1 (.done))) Kr ?_)))
 refine qB rfl rfl rfl rfl rfl (cP _ _ _ _) ?_
 refine qS rfl rfl rfl rfl (qR (qW [0,3,5,6,33] (e':=[(0,_),(3,_),(5,_),(6,_),(33,_)]) rfl ?_))
 refine qQ ?_
 refine qD rfl (fun k1=>?_) (fun k1=>?_)
 ·
  refine cW (qY (kR rfl ?_))
  refine qY (kK (qQ (qL (qL (qC (.q 0 (.q 1 (.q 2 (.q 3 (.q 4 (.q 5 (.q 6 ((.l 7 [] (.done)))))))))) Kr ?_)))))
  refine qK rfl rfl rfl rfl (qX rfl rfl rfl rfl (qG (k:=2) rfl rfl rfl rfl υ'43 rfl ζ'3 rfl ?_))
  refine qP (j:=2) rfl rfl rfl rfl α'3 Tk Az (by rfl) ?_
  refine qB rfl rfl rfl rfl rfl (cV _ (by exact kP Om Om)) ?_
  refine qX rfl rfl rfl rfl (qG (k:=2) rfl rfl rfl rfl υ'43 rfl ζ'3 rfl ?_)
  refine kH (j:=2) rfl rfl rfl rfl ζ'3 (us:=[_]) rfl rfl rfl Tk Az (by first | decide | (simp;done) | omega) ?_
  simp only [setL,List.set]
  refine qV (qR (qW [0,3,5,6] (e':=[(0,_),(3,_),(5,_),(6,_)]) rfl ?_))
  refine qQ (qL ?_)
  obtain ⟨p0,p1⟩:=acc_obj hvc.1 Om
  obtain ⟨w,hw⟩:=cR (l:=x.vs) (i:=o.toNat) Om
  obtain ⟨hwr,hww⟩:=hx.vs w (List.mem_of_getElem? hw)
  refine cZ (res:=varA) (V:=V) (Y:=x.vs) (S:=[]) o.toNat Tk (by simp) hw fun v_ hv=>?_
  obtain ⟨va_,vb_,fl,fg⟩:=v_
  refine s_var Tk fun hf=>?_
  refine s_vec Tk fun rb ra rc hra_=>?_
  simp only at hra_
  subst hra_
  refine s_vec Td fun wb wa wc hwa_=>?_
  simp only at hwa_
  subst hwa_
  simp only at hf
  have e1:w.2.2.1=fl:=by rw [← hf]
  have e2:w.2.2.2=fg:=by rw [← hf]
  have hgr:=g_rng hlc.rng (by decide) t.toNat
  refine kL rfl (.q 0 (.q 1 (.q 2 (.q 3 (.q 4 (.q 5 (.q 6 (.q 7 (.done))))))))) Kr ?_
  refine qK rfl rfl rfl rfl (qX rfl rfl rfl rfl (qG (k:=1) rfl rfl rfl rfl υ'43 rfl ζ'41 rfl ?_))
  refine qP (j:=1) rfl rfl rfl rfl α'41 Tk Az (by rfl) ?_
  refine qG (k:=2) rfl rfl rfl rfl υ'47 rfl ζ'3 rfl ?_
  refine qP (j:=2) rfl rfl rfl rfl α'3 Tk Az (by rfl) ?_
  refine kF (sz:=3) (k:=o.toNat) (enc:=encV) (xs:=V) rfl rfl rfl rfl rfl υ'41 ζ'82 hv (by first | rfl | omega) Om Tk ?_
  intro ib67 io67 ha67 hl67 hc67
  refine qS rfl rfl rfl rfl (qR (qW [0,3,5,6,7] (e':=[(0,_),(3,_),(5,_),(6,_),(7,_)]) rfl ?_))
  refine qQ (qL (qC (.q 0 (.q 1 (.q 2 (.q 3 (.q 4 (.q 5 (.q 6 ((.l 7 [] (.q 8 (.q 9 (.q 10 (.done))))))))))))) Kr ?_))
  refine qK rfl rfl rfl rfl (qK rfl rfl rfl rfl (qK rfl rfl rfl rfl (qX rfl rfl rfl rfl (qG (k:=1) rfl rfl rfl rfl υ'82 rfl ζ'79 rfl ?_))))
  refine kS (v:=(.pointer (some ⟨wb,0,none⟩))) (j:=1) (k':=o.toNat) (enc:=encV) (off:=io67) rfl rfl rfl rfl α'79 ha67 encV_len hv Tk (by first | rfl | exact (Ad _).symm | omega) (by rfl) ?_
  refine qK rfl rfl rfl rfl ?_
  have sp_22:=Vc.leq_spec wb tb w.2.1 l wa ta w.2.1.length wc l.length tc (by rfl) (by rfl) hww hlc
  refine qM rfl rfl rfl rfl rfl rfl Tryz.call28 (sp_22) Ts ?_
  rintro ⟨⟩ -
  try simp only [Ca,Na]
  refine qV (sY rfl rfl rfl rfl ?_)
  refine kN rfl rfl rfl rfl rfl (qS rfl rfl rfl rfl (qR (qW [0,3,5,7] (e':=[(0,_),(3,_),(5,_),(7,_)]) rfl ?_)))
  refine qQ (qL (qL (qC (.q 0 (.q 1 (.q 2 (.q 3 (.q 4 (.q 5 (.q 6 (.q 7 (.done))))))))) Kr ?_)))
  refine qK rfl rfl rfl rfl (qK rfl rfl rfl rfl ?_)
  refine s_bool_np 79 rfl (fun hr2=>?_) (fun hr2=>?_)
  ·
   refine qK rfl rfl rfl rfl (qX rfl rfl rfl rfl (qG (k:=3) rfl rfl rfl rfl υ'82 rfl ζ'4 rfl ?_))
   refine kS (v:=(.bool fg)) (j:=3) (k':=o.toNat) (enc:=encV) (off:=io67) rfl rfl rfl rfl α'4 ha67 encV_len hv Tk (by first | rfl | exact (Ad _).symm | omega) (by rfl) ?_
   refine sY rfl rfl rfl rfl ?_
   refine kW rfl rfl rfl rfl rfl (qR (qW [0,3,7,85] (e':=[(0,_),(3,_),(7,_),(85,_)]) rfl ?_))
   refine qQ ?_
   refine c_cond rfl (fun hfg=>?_) (fun hfg=>?_)
   ·
    try simp only [Bool.and_eq_true,Bool.or_eq_true,Bool.not_eq_true',Bool.not_eq_false',Bool.and_eq_false_iff,Bool.or_eq_false_iff,decide_eq_true_eq,decide_eq_false_iff_not] at hfg
    refine qC (.q 0 (.q 1 (.q 2 (.q 3 (.q 4 (.q 5 (.q 6 (.q 7 (.q 8 ((.l 9 [] (.q 10 (.q 11 ((.l 12 [] (.q 13 (.q 14 ((.l 15 [] (.done)))))))))))))))))))) Kr ?_
    refine qK rfl rfl rfl rfl (qK rfl rfl rfl rfl (qK rfl rfl rfl rfl (qX rfl rfl rfl rfl (qG (k:=0) rfl rfl rfl rfl υ'43 rfl ζ'40 rfl ?_))))
    refine qP (j:=0) rfl rfl rfl rfl α'40 Tk Az (by rfl) ?_
    refine qX rfl rfl rfl rfl (qG (k:=0) rfl rfl rfl rfl υ'87 rfl ζ'83 rfl ?_)
    refine qP (j:=0) rfl rfl rfl rfl α'83 Tk Az (by rfl) ?_
    have sp_23:=Fe.len_spec pa pc cb x.v.ck
    refine qM rfl rfl rfl rfl rfl rfl κ'29 (sp_23) Ts ?_
    rintro ⟨⟩ -
    try simp only [Ca,Na]
    refine qV (qX rfl rfl rfl rfl (qG (k:=2) rfl rfl rfl rfl υ'82 rfl ζ'3 rfl ?_))
    refine sK (j:=2) (k:=o.toNat) (q:=(some ⟨rb,0,none⟩,some ⟨wb,0,none⟩,x.v.ck.n,fg)) (enc:=encV) (off:=io67) rfl rfl rfl rfl ζ'3 (us:=[_]) rfl rfl rfl ha67 encV_len hv Tk (by first | rfl | exact (Ad _).symm | omega) (by first | decide | exact Nat.le_of_ble_eq_true rfl) (by rfl) ?_
    refine qV ?_
    have hq1:(V.set o.toNat (some ⟨rb,0,none⟩,some ⟨wb,0,none⟩,x.v.ck.n,fg))[o.toNat]?=some (some ⟨rb,0,none⟩,some ⟨wb,0,none⟩,x.v.ck.n,fg):=List.getElem?_set_self Om
    refine qX rfl rfl rfl rfl (qG (k:=3) rfl rfl rfl rfl υ'82 rfl ζ'4 rfl ?_)
    refine sK (j:=3) (k:=o.toNat) (q:=(some ⟨rb,0,none⟩,some ⟨wb,0,none⟩,x.v.ck.n,true)) (enc:=encV) (off:=io67) rfl rfl rfl rfl ζ'4 (us:=[_]) rfl rfl rfl ha67 encV_len hq1 Tk (by first | rfl | exact (Ad _).symm | omega) (by first | decide | exact Nat.le_of_ble_eq_true rfl) (by rfl) ?_
    refine qV ?_
    have hq2:((V.set o.toNat (some ⟨rb,0,none⟩,some ⟨wb,0,none⟩,x.v.ck.n,fg)).set o.toNat (some ⟨rb,0,none⟩,some ⟨wb,0,none⟩,x.v.ck.n,true))[o.toNat]?=some (some ⟨rb,0,none⟩,some ⟨wb,0,none⟩,x.v.ck.n,true):=List.getElem?_set_self (by simp;omega)
    refine qR (qW [0,3,7] (e':=[(0,_),(3,_),(7,_)]) rfl ?_)
    refine qQ (qL (qC (.q 0 (.q 1 (.q 2 (.q 3 (.q 4 (.done)))))) Kr ?_))
    refine qK rfl rfl rfl rfl (qX rfl rfl rfl rfl (qG (k:=0) rfl rfl rfl rfl υ'82 rfl ζ'79 rfl ?_))
    refine kS (v:=(.pointer (some ⟨rb,0,none⟩))) (j:=0) (k':=o.toNat) (enc:=encV) (off:=io67) rfl rfl rfl rfl α'79 ha67 encV_len hq2 Tk (by first | rfl | exact (Ad _).symm | omega) (by rfl) ?_
    refine qS rfl rfl rfl rfl (qR (qW [0,3,7,8] (e':=[(0,_),(3,_),(7,_),(8,_)]) rfl ?_))
    refine qQ (qL (qL (qC (.q 0 (.q 1 (.q 2 (.done)))) Kr ?_)))
    refine qG (k:=0) rfl rfl rfl rfl υ'47 rfl ζ'45 rfl ?_
    refine qP (j:=0) rfl rfl rfl rfl α'45 Tk Az (by rfl) ?_
    refine qB rfl rfl rfl rfl rfl (cP _ _ _ _) ?_
    refine qR (qQ ?_)
    refine qD rfl (fun h9=>by exfalso;omega) (fun h9=>?_)
    refine qF (qQ (kL rfl (.q 0 (.q 1 (.q 2 (.q 3 (.q 4 (.q 5 (.q 6 (.q 7 (.q 8 ((.l 9 [2] ((.l 10 [] (.done)))))))))))))) Kr ?_))
    refine qK rfl rfl rfl rfl (qG (k:=1) rfl rfl rfl rfl υ'47 rfl ζ'3 rfl ?_)
    refine qP (j:=1) rfl rfl rfl rfl α'3 Tk Az (by rfl) ?_
    refine qK rfl rfl rfl rfl (qX rfl rfl rfl rfl (qG (k:=0) rfl rfl rfl rfl υ'43 rfl ζ'40 rfl ?_))
    refine qP (j:=0) rfl rfl rfl rfl α'40 Tk Az (by rfl) ?_
    refine qG (k:=1) rfl rfl rfl rfl υ'47 rfl ζ'3 rfl ?_
    refine qP (j:=1) rfl rfl rfl rfl α'3 Tk Az (by rfl) ?_
    have sp_24:=clock_spec vb m1 (.pointer (some ⟨cb,0,none⟩)) (.slice po x.v.ck.pa.length poc) (.map (some m2)) (.map (some m3)) (.map (some m4)) F1 tb (ta) (tc) l t Om htF
    refine qM rfl rfl rfl rfl rfl rfl κ'31 (sp_24) Ts ?_
    rintro ⟨⟩ -
    try simp only [Ca,Na]
    refine qH (q:=1) rfl rfl rfl α'3 Tk Az (by rfl) ?_
    refine qV ?_
    have sp_25:=set_z rb w.1 ra w.1.length rc Ln hwr t Om Om (l.getD t.toNat 0) (by exact hgr.1) (by exact hgr.2)
    refine qM rfl rfl rfl rfl rfl rfl κ'30 (sp_25) Ts ?_
    rintro ⟨za,zc⟩ -
    try simp only [Ca,Na]
    refine qV (qR (s_vecF rb za zc (stL w.1 t.toNat (l.getD t.toNat 0)) Ts ?_))
    refine s_vecF wb wa wc w.2.1 Ts ?_
    refine s_varF (some ⟨rb,0,none⟩,some ⟨wb,0,none⟩,x.v.ck.n,true) ((stL w.1 t.toNat (l.getD t.toNat 0)),w.2.1,x.v.ck.n,true) Ts rfl ?_
    refine cD (res:=varA) (V:=V) (Y:=x.vs) (S:=[]) o.toNat (some ⟨rb,0,none⟩,some ⟨wb,0,none⟩,x.v.ck.n,true) ((stL w.1 t.toNat (l.getD t.toNat 0)),w.2.1,x.v.ck.n,true) Ts (by simp) (List.getElem?_eq_some_iff.1 hv).1 Om ?_
    rw [set_set]
    refine qW [0,3] (e':=[(0,_),(3,_)]) rfl ?_
    refine qQ (cW (kK (qQ (qL (s_vecF tb ta tc l Ts ?_)))))
    refine cN (F:=F1) (T:=x.v.th) (S:=[]) t F1 x.v.th Ts (by simp) htF (fun _ _ _=>rfl) hth (fun _ _ _=>rfl) ?_
    refine vs_fold (b:=vb) x.v (pa:=pa) (pc:=pc) (po:=po) (poc:=poc) (cb:=cb) (m1:=m1) (m2:=m2) (m3:=m3) (m4:=m4) Ts (by rfl) (by rfl) ?_
    refine kL rfl (.q 0 (.q 1 (.q 2 (.q 3 (.q 4 ((.l 5 [] (.done)))))))) Kr ?_
    refine qK rfl rfl rfl rfl (qX rfl rfl rfl rfl (qG (k:=0) rfl rfl rfl rfl υ'43 rfl ζ'40 rfl ?_))
    refine qP (j:=0) rfl rfl rfl rfl α'40 Tk Az (by rfl) ?_
    refine kG rfl rfl rfl rfl α'47 ζ'47 Tk 0 (us:=[_,_,_]) Az rfl rfl ?_
    have sp_26:=next_spec pa pc po poc vb x.v hx.v hn pl hpl k t o hvc
    refine qM rfl rfl rfl rfl rfl rfl κ'32 (sp_26) Ts ?_
    rintro ⟨⟩ -
    try simp only [Ca,Na]
    refine qV (qR (qW [] (e':=[]) rfl ?_))
    refine qQ (qL (qC (.q 0 (.done)) Kr ?_))
    refine qS rfl rfl rfl rfl (qR (qQ (qJ ?_)))
    have hrc:raceF k l w:=.inr hr2
    have hacw:acW x.v.ck.n k t l w=((stL w.1 t.toNat (l.getD t.toNat 0)),w.2.1,x.v.ck.n,true):=by
      unfold acW
      rw [if_neg Om,if_neg Om]
      have hfg2:fg=false:=by simpa using hfg
      rw [if_pos ⟨hrc,e2.trans hfg2⟩,decide_eq_true hrc,Bool.or_true]
    refine d_fold (b:=b) (deF x k t o) (pa:=pa) (pc:=pc) (po:=po) (poc:=poc) (vb:=vb) (va:=va) (vc:=vc) (V:=(V.set o.toNat (some ⟨rb,0,none⟩,some ⟨wb,0,none⟩,x.v.ck.n,true))) Ts (by rw [de_acc hvc Om hw hth,hacw];congr 1;omega) (by simp) (by first | exact (by simp [hV]) | simp) ?_
    refine kD rfl rfl (()) (by rw [show deE x k t o=0 from if_pos hvc]) (by trivial) ?_
    exact Tf
   try simp only [Bool.and_eq_true,Bool.or_eq_true,Bool.not_eq_true',Bool.not_eq_false',Bool.and_eq_false_iff,Bool.or_eq_false_iff,decide_eq_true_eq,decide_eq_false_iff_not] at hfg
   refine qF (qQ (qL (qC (.q 0 (.q 1 (.q 2 (.q 3 (.q 4 (.done)))))) Kr ?_)))
   refine qK rfl rfl rfl rfl (qX rfl rfl rfl rfl (qG (k:=0) rfl rfl rfl rfl υ'82 rfl ζ'79 rfl ?_))
   refine kS (v:=(.pointer (some ⟨rb,0,none⟩))) (j:=0) (k':=o.toNat) (enc:=encV) (off:=io67) rfl rfl rfl rfl α'79 ha67 encV_len hv Tk (by first | rfl | exact (Ad _).symm | omega) (by rfl) ?_
   refine qS rfl rfl rfl rfl (qR (qW [0,3,7,8] (e':=[(0,_),(3,_),(7,_),(8,_)]) rfl ?_))
   refine qQ (qL (qL (qC (.q 0 (.q 1 (.q 2 (.done)))) Kr ?_)))
   refine qG (k:=0) rfl rfl rfl rfl υ'47 rfl ζ'45 rfl ?_
   refine qP (j:=0) rfl rfl rfl rfl α'45 Tk Az (by rfl) ?_
   refine qB rfl rfl rfl rfl rfl (cP _ _ _ _) ?_
   refine qR (qQ ?_)
   refine qD rfl (fun h9=>by exfalso;omega) (fun h9=>?_)
   refine qF (qQ (kL rfl (.q 0 (.q 1 (.q 2 (.q 3 (.q 4 (.q 5 (.q 6 (.q 7 (.q 8 ((.l 9 [2] ((.l 10 [] (.done)))))))))))))) Kr ?_))
   refine qK rfl rfl rfl rfl (qG (k:=1) rfl rfl rfl rfl υ'47 rfl ζ'3 rfl ?_)
   refine qP (j:=1) rfl rfl rfl rfl α'3 Tk Az (by rfl) ?_
   refine qK rfl rfl rfl rfl (qX rfl rfl rfl rfl (qG (k:=0) rfl rfl rfl rfl υ'43 rfl ζ'40 rfl ?_))
   refine qP (j:=0) rfl rfl rfl rfl α'40 Tk Az (by rfl) ?_
   refine qG (k:=1) rfl rfl rfl rfl υ'47 rfl ζ'3 rfl ?_
   refine qP (j:=1) rfl rfl rfl rfl α'3 Tk Az (by rfl) ?_
   have sp_27:=clock_spec vb m1 (.pointer (some ⟨cb,0,none⟩)) (.slice po x.v.ck.pa.length poc) (.map (some m2)) (.map (some m3)) (.map (some m4)) F1 tb (ta) (tc) l t Om htF
   refine qM rfl rfl rfl rfl rfl rfl κ'31 (sp_27) Ts ?_
   rintro ⟨⟩ -
   try simp only [Ca,Na]
   refine qH (q:=1) rfl rfl rfl α'3 Tk Az (by rfl) ?_
   refine qV ?_
   have sp_28:=set_z rb w.1 ra w.1.length rc Ln hwr t Om Om (l.getD t.toNat 0) (by exact hgr.1) (by exact hgr.2)
   refine qM rfl rfl rfl rfl rfl rfl κ'30 (sp_28) Ts ?_
   rintro ⟨za,zc⟩ -
   try simp only [Ca,Na]
   refine qV (qR (s_vecF rb za zc (stL w.1 t.toNat (l.getD t.toNat 0)) Ts ?_))
   refine s_vecF wb wa wc w.2.1 Ts ?_
   refine s_varF (some ⟨rb,0,none⟩,some ⟨wb,0,none⟩,fl,fg) ((stL w.1 t.toNat (l.getD t.toNat 0)),w.2.1,fl,fg) Ts rfl ?_
   refine cD (res:=varA) (V:=V) (Y:=x.vs) (S:=[]) o.toNat (some ⟨rb,0,none⟩,some ⟨wb,0,none⟩,fl,fg) ((stL w.1 t.toNat (l.getD t.toNat 0)),w.2.1,fl,fg) Ts (by simp) (List.getElem?_eq_some_iff.1 hv).1 Om ?_
   rw [set_same hv]
   refine qW [0,3] (e':=[(0,_),(3,_)]) rfl ?_
   refine qQ (cW (kK (qQ (qL (s_vecF tb ta tc l Ts ?_)))))
   refine cN (F:=F1) (T:=x.v.th) (S:=[]) t F1 x.v.th Ts (by simp) htF (fun _ _ _=>rfl) hth (fun _ _ _=>rfl) ?_
   refine vs_fold (b:=vb) x.v (pa:=pa) (pc:=pc) (po:=po) (poc:=poc) (cb:=cb) (m1:=m1) (m2:=m2) (m3:=m3) (m4:=m4) Ts (by rfl) (by rfl) ?_
   refine kL rfl (.q 0 (.q 1 (.q 2 (.q 3 (.q 4 ((.l 5 [] (.done)))))))) Kr ?_
   refine qK rfl rfl rfl rfl (qX rfl rfl rfl rfl (qG (k:=0) rfl rfl rfl rfl υ'43 rfl ζ'40 rfl ?_))
   refine qP (j:=0) rfl rfl rfl rfl α'40 Tk Az (by rfl) ?_
   refine kG rfl rfl rfl rfl α'47 ζ'47 Tk 0 (us:=[_,_,_]) Az rfl rfl ?_
   have sp_29:=next_spec pa pc po poc vb x.v hx.v hn pl hpl k t o hvc
   refine qM rfl rfl rfl rfl rfl rfl κ'32 (sp_29) Ts ?_
   rintro ⟨⟩ -
   try simp only [Ca,Na]
   refine qV (qR (qW [] (e':=[]) rfl ?_))
   refine qQ (qL (qC (.q 0 (.done)) Kr ?_))
   refine qS rfl rfl rfl rfl (qR (qQ (qJ ?_)))
   have hrc:raceF k l w:=.inr hr2
   have hacw:acW x.v.ck.n k t l w=((stL w.1 t.toNat (l.getD t.toNat 0)),w.2.1,fl,fg):=by
     unfold acW
     rw [if_neg Om,if_neg Om]
     have hfg2:fg=true:=by simpa using hfg
     rw [if_neg (fun h=>by rw [e2,hfg2] at h;exact absurd h.2 (by decide)),e1,e2,hfg2,Bool.true_or]
   refine d_fold (b:=b) (deF x k t o) (pa:=pa) (pc:=pc) (po:=po) (poc:=poc) (vb:=vb) (va:=va) (vc:=vc) (V:=V) Ts (by rw [de_acc hvc Om hw hth,hacw];congr 1;omega) (by simp) (by first | exact (by simp [hV]) | simp) ?_
   refine kD rfl rfl (()) (by rw [show deE x k t o=0 from if_pos hvc]) (by trivial) ?_
   exact Tf
  refine qZ rfl rfl rfl rfl (qZ rfl rfl rfl rfl (qZ rfl rfl rfl rfl (qZ rfl rfl rfl rfl (qZ rfl rfl rfl rfl (kN rfl rfl rfl rfl rfl (qR (qW [0,3,7,85] (e':=[(0,_),(3,_),(7,_),(85,_)]) rfl ?_)))))))
  refine qQ (kZ rfl ?_)
  refine qF (qQ (qL (qC (.q 0 (.q 1 (.q 2 (.q 3 (.q 4 (.done)))))) Kr ?_)))
  refine qK rfl rfl rfl rfl (qX rfl rfl rfl rfl (qG (k:=0) rfl rfl rfl rfl υ'82 rfl ζ'79 rfl ?_))
  refine kS (v:=(.pointer (some ⟨rb,0,none⟩))) (j:=0) (k':=o.toNat) (enc:=encV) (off:=io67) rfl rfl rfl rfl α'79 ha67 encV_len hv Tk (by first | rfl | exact (Ad _).symm | omega) (by rfl) ?_
  refine qS rfl rfl rfl rfl (qR (qW [0,3,7,8] (e':=[(0,_),(3,_),(7,_),(8,_)]) rfl ?_))
  refine qQ (qL (qL (qC (.q 0 (.q 1 (.q 2 (.done)))) Kr ?_)))
  refine qG (k:=0) rfl rfl rfl rfl υ'47 rfl ζ'45 rfl ?_
  refine qP (j:=0) rfl rfl rfl rfl α'45 Tk Az (by rfl) ?_
  refine qB rfl rfl rfl rfl rfl (cP _ _ _ _) ?_
  refine qR (qQ ?_)
  refine qD rfl (fun h9=>by exfalso;omega) (fun h9=>?_)
  refine qF (qQ (kL rfl (.q 0 (.q 1 (.q 2 (.q 3 (.q 4 (.q 5 (.q 6 (.q 7 (.q 8 ((.l 9 [2] ((.l 10 [] (.done)))))))))))))) Kr ?_))
  refine qK rfl rfl rfl rfl (qG (k:=1) rfl rfl rfl rfl υ'47 rfl ζ'3 rfl ?_)
  refine qP (j:=1) rfl rfl rfl rfl α'3 Tk Az (by rfl) ?_
  refine qK rfl rfl rfl rfl (qX rfl rfl rfl rfl (qG (k:=0) rfl rfl rfl rfl υ'43 rfl ζ'40 rfl ?_))
  refine qP (j:=0) rfl rfl rfl rfl α'40 Tk Az (by rfl) ?_
  refine qG (k:=1) rfl rfl rfl rfl υ'47 rfl ζ'3 rfl ?_
  refine qP (j:=1) rfl rfl rfl rfl α'3 Tk Az (by rfl) ?_
  have sp_30:=clock_spec vb m1 (.pointer (some ⟨cb,0,none⟩)) (.slice po x.v.ck.pa.length poc) (.map (some m2)) (.map (some m3)) (.map (some m4)) F1 tb (ta) (tc) l t Om htF
  refine qM rfl rfl rfl rfl rfl rfl κ'31 (sp_30) Ts ?_
  rintro ⟨⟩ -
  try simp only [Ca,Na]
  refine qH (q:=1) rfl rfl rfl α'3 Tk Az (by rfl) ?_
  refine qV ?_
  have sp_31:=set_z rb w.1 ra w.1.length rc Ln hwr t Om Om (l.getD t.toNat 0) (by exact hgr.1) (by exact hgr.2)
  refine qM rfl rfl rfl rfl rfl rfl κ'30 (sp_31) Ts ?_
  rintro ⟨za,zc⟩ -
  try simp only [Ca,Na]
  refine qV (qR (s_vecF rb za zc (stL w.1 t.toNat (l.getD t.toNat 0)) Ts ?_))
  refine s_vecF wb wa wc w.2.1 Ts ?_
  refine s_varF (some ⟨rb,0,none⟩,some ⟨wb,0,none⟩,fl,fg) ((stL w.1 t.toNat (l.getD t.toNat 0)),w.2.1,fl,fg) Ts rfl ?_
  refine cD (res:=varA) (V:=V) (Y:=x.vs) (S:=[]) o.toNat (some ⟨rb,0,none⟩,some ⟨wb,0,none⟩,fl,fg) ((stL w.1 t.toNat (l.getD t.toNat 0)),w.2.1,fl,fg) Ts (by simp) (List.getElem?_eq_some_iff.1 hv).1 Om ?_
  rw [set_same hv]
  refine qW [0,3] (e':=[(0,_),(3,_)]) rfl ?_
  refine qQ (cW (kK (qQ (qL (s_vecF tb ta tc l Ts ?_)))))
  refine cN (F:=F1) (T:=x.v.th) (S:=[]) t F1 x.v.th Ts (by simp) htF (fun _ _ _=>rfl) hth (fun _ _ _=>rfl) ?_
  refine vs_fold (b:=vb) x.v (pa:=pa) (pc:=pc) (po:=po) (poc:=poc) (cb:=cb) (m1:=m1) (m2:=m2) (m3:=m3) (m4:=m4) Ts (by rfl) (by rfl) ?_
  refine kL rfl (.q 0 (.q 1 (.q 2 (.q 3 (.q 4 ((.l 5 [] (.done)))))))) Kr ?_
  refine qK rfl rfl rfl rfl (qX rfl rfl rfl rfl (qG (k:=0) rfl rfl rfl rfl υ'43 rfl ζ'40 rfl ?_))
  refine qP (j:=0) rfl rfl rfl rfl α'40 Tk Az (by rfl) ?_
  refine kG rfl rfl rfl rfl α'47 ζ'47 Tk 0 (us:=[_,_,_]) Az rfl rfl ?_
  have sp_32:=next_spec pa pc po poc vb x.v hx.v hn pl hpl k t o hvc
  refine qM rfl rfl rfl rfl rfl rfl κ'32 (sp_32) Ts ?_
  rintro ⟨⟩ -
  try simp only [Ca,Na]
  refine qV (qR (qW [] (e':=[]) rfl ?_))
  refine qQ (qL (qC (.q 0 (.done)) Kr ?_))
  refine qS rfl rfl rfl rfl (qR (qQ (qJ ?_)))
  have hrc:¬ raceF k l w:=by
    rintro (⟨h8,h9⟩ | h9)
    · first | exact h9 (Classical.byContradiction hr1) | exact absurd (k1.symm.trans h8) (by decide) | exact hr1 h9 | exact h9 hr1
    · first | exact h9 (Classical.byContradiction hr2) | exact hr2 h9 | exact h9 hr2
  have hacw:acW x.v.ck.n k t l w=((stL w.1 t.toNat (l.getD t.toNat 0)),w.2.1,fl,fg):=by
    unfold acW
    rw [if_neg Om,if_neg Om]
    rw [if_neg (fun h=>hrc h.1),e1,e2,decide_eq_false hrc,Bool.or_false]
  refine d_fold (b:=b) (deF x k t o) (pa:=pa) (pc:=pc) (po:=po) (poc:=poc) (vb:=vb) (va:=va) (vc:=vc) (V:=V) Ts (by rw [de_acc hvc Om hw hth,hacw];congr 1;omega) (by simp) (by first | exact (by simp [hV]) | simp) ?_
  refine kD rfl rfl (()) (by rw [show deE x k t o=0 from if_pos hvc]) (by trivial) ?_
  exact Tf
 refine qF (qQ (cW (kR rfl ?_)))
 refine qY (kR rfl ?_)
 refine qY (kK (qQ (qL (s_vecF tb ta tc l Ts ?_))))
 refine cN (F:=F1) (T:=x.v.th) (S:=[]) t F1 x.v.th Ts (by simp) htF (fun _ _ _=>rfl) hth (fun _ _ _=>rfl) ?_
 refine vs_fold (b:=vb) x.v (pa:=pa) (pc:=pc) (po:=po) (poc:=poc) (cb:=cb) (m1:=m1) (m2:=m2) (m3:=m3) (m4:=m4) Ts (by rfl) (by rfl) ?_
 refine kL rfl (.q 0 (.q 1 (.q 2 (.q 3 (.q 4 ((.l 5 [] (.done)))))))) Kr ?_
 refine qK rfl rfl rfl rfl (qX rfl rfl rfl rfl (qG (k:=0) rfl rfl rfl rfl υ'43 rfl ζ'40 rfl ?_))
 refine qP (j:=0) rfl rfl rfl rfl α'40 Tk Az (by rfl) ?_
 refine kG rfl rfl rfl rfl α'47 ζ'47 Tk 0 (us:=[_,_,_]) Az rfl rfl ?_
 have sp_33:=next_spec pa pc po poc vb x.v hx.v hn pl hpl k t o hvc
 refine qM rfl rfl rfl rfl rfl rfl κ'32 (sp_33) Ts ?_
 rintro ⟨⟩ -
 try simp only [Ca,Na]
 refine qV (qR (qW [] (e':=[]) rfl ?_))
 refine qQ (qL (qC (.q 0 (.done)) Kr ?_))
 refine qS rfl rfl rfl rfl (qR (qQ (qJ (d_fold (b:=b) (deF x k t o) (pa:=pa) (pc:=pc) (po:=po) (poc:=poc) (vb:=vb) (va:=va) (vc:=vc) (V:=V) Ts (by rw [de_no hvc k1 k2]) (by rfl) (by first | exact hV | simp) ?_))))
 refine kD rfl rfl (()) (by rw [show deE x k t o=0 from if_pos hvc]) (by trivial) ?_
 exact Tf
end Go.Ab.Dj
set_option linter.unusedVariables false
set_option linter.unusedSimpArgs false
set_option maxRecDepth 100000
namespace Go.Ab.Dj
open Go Go.Proofs Go.Ab Go.Ab.Fe Go.Ab.Vc
def dEv (x:DS) (e:T3):DS:=deF x e.1 e.2.1 e.2.2
def dAll (x:DS) (es:List T3):DS:=es.foldl dEv x
def canE (x:DS) (e:T3):Prop:=vcanF x.v e.1 e.2.1 e.2.2
instance (x:DS) (e:T3):Decidable (canE x e):=by unfold canE;infer_instance
/-- All events of a list can be, one behind the other. -/
def okAll (x:DS) (es:List T3):Prop:=∀ (i:Nat) e,es[i]?=some e→canE (dAll x (es.take i)) e
theorem dAll_next {x:DS} {es:List T3} {i:Nat} {e:T3} (h:es[i]?=some e):dAll x (es.take (i+1))=dEv (dAll x (es.take i)) e:=by
  rw [List.take_add_one,h,dAll,dAll,List.foldl_append];rfl
theorem dAll_inv {x:DS} (hx:DInv x):∀ es,DInv (dAll x es)
  | []=>hx
  | e::es=>dAll_inv (de_inv hx _ _ _) es
theorem dAll_n:∀ (es:List T3) (x:DS),(dAll x es).v.ck.n≤x.v.ck.n+es.length∧(dAll x es).v.ck.pa=x.v.ck.pa∧(dAll x es).v.ck.th=x.v.ck.th∧(dAll x es).v.ck.va=x.v.ck.va
  | [],x=>⟨by simp [dAll],rfl,rfl,rfl⟩
  | e::es,x=>by
    have h:=dAll_n es (dEv x e)
    have h2:=de_n (x:=x) e.1 e.2.1 e.2.2
    refine ⟨?_,h.2.1.trans h2.2.1,h.2.2.1.trans h2.2.2.1,h.2.2.2.trans h2.2.2.2⟩
    have h3:=h.1
    have h4:=h2.1
    simp only [List.length_cons]
    show (dAll (dEv x e) es).v.ck.n≤_
    have:(dEv x e).v.ck.n≤x.v.ck.n+1:=h4
    omega
theorem okAll_next {x:DS} {es:List T3} {i:Nat} {e:T3} (h:es[i]?=some e) (ho:okAll x (es.take i)) (hc:canE (dAll x (es.take i)) e):okAll x (es.take (i+1)):=by
  intro j q hj
  have hi:=(List.getElem?_eq_some_iff.1 h).1
  have hj2:=(List.getElem?_eq_some_iff.1 hj).1
  rw [List.length_take] at hj2
  rw [List.getElem?_take_of_lt Om] at hj
  rw [List.take_take,Nat.min_eq_left Om]
  rcases Nat.lt_or_ge j i with h1 | h1
  · have:=ho j q (by rw [List.getElem?_take_of_lt h1];exact hj)
    rwa [List.take_take,Nat.min_eq_left Om] at this
  · obtain rfl:j=i:=by omega
    rw [h] at hj;cases hj;exact hc
theorem events_spec (pa:Option Addr) (pc:Nat) (po:Option Addr) (poc b:Nat) (x:DS) (hx:DInv x) (hn:x.v.ck.n≤100000000000000) (pl:List Int) (hpl:x.v.ck.pa=pl) (xs:List T3) (ao:Option Addr) (n c:Nat) (A:HProp) (hr:RdS A ao (xs.flatMap enc3)) (hxn:xs.length=n) (hb:n≤4000000):Spec Tryz.prog 10 [.pointer (some ⟨b,0,none⟩),.slice ao n c] [A,dR pa pc po poc b x,own 1 encZ pa pc pl,own 1 encZ po poc pl] (fun (i:Nat)=>.tuple #[.int .i64 ((i:Nat):Int),.int .i64 (if i=n then 0 else 6)]) (fun i=>i≤n∧okAll x (xs.take i)∧(i < n→∀ e,xs[i]?=some e→¬ canE (dAll x (xs.take i)) e)) (fun i=>[A,dR pa pc po poc b (dAll x (xs.take i)),own 1 encZ pa pc pl,own 1 encZ po poc pl]):=by
 refine kQ (n:=29) Tryz.func10 rfl rfl rfl ?_
 intro Γ w0
 simp only [argE,Ca,Na,Zd,Nat.reduceAdd]
 refine qL (qC (.q 0 (.q 1 (.done))) Kr ?_)
 refine qS rfl rfl rfl rfl (qS rfl rfl rfl rfl (qR (qQ (qL (qL (qC (.q 0 ((.l 1 [] (.q 2 (.done))))) Kr ?_))))))
 refine qK rfl rfl rfl rfl (cS (A:=dR pa pc po poc b x) Tk ?_)
 refine d_open fun vb va vc V hV=>?_
 have sp_1:=there_spec b vb (.slice va x.vs.length vc) (.int .i64 x.cost)
 refine qM rfl rfl rfl rfl rfl rfl κ'25 (sp_1) Ts ?_
 rintro ⟨⟩ -
 try simp only [Ca,Na]
 refine qV (d_fold (b:=b) x (pa:=pa) (pc:=pc) (po:=po) (poc:=poc) (vb:=vb) (va:=va) (vc:=vc) (V:=V) Ts (by rfl) (by rfl) (by first | exact hV | simp) ?_)
 refine sY rfl rfl rfl rfl ?_
 refine kB 11 rfl (v':=.bool false) rfl ?_
 refine qR (qW [0,1,11] (e':=[(0,_),(1,_),(11,_)]) rfl ?_)
 refine qQ (kZ rfl ?_)
 refine qF (qQ (qL (qL (qC (.q 0 (.q 1 (.q 2 (.done)))) Kr ?_))))
 refine qK rfl rfl rfl rfl (cJ rfl rfl rfl rfl υ'48 ?_)
 refine qK rfl rfl rfl rfl (qR (qQ (kC ?_)))
 refine cH (α:=Nat) (fun (i:Nat)=>i≤n∧(okAll x (xs.take i))) (fun (i:Nat)=>[(14,.int .i64 ((i:Nat):Int))]) (fun (i:Nat)=>[dR pa pc po poc b (dAll x (xs.take i)),own 1 encZ pa pc pl,own 1 encZ po poc pl]) (fun (i:Nat)=>n - i) [0,1,12,13] (er:=[(0,_),(1,_),(12,_),(13,_)]) rfl (0) ?_ (by exact ⟨rfl,trivial⟩) (by (try dsimp only);(try simp only [Ad,Zd]);(repeat ((with_reducible apply Z2);focus (first | (with_reducible (repeat (first | exact Z0 | apply Z1));done) | (repeat (first | exact Z0 | apply Z1)))));exact Z3) ?_
 · exact ⟨Nat.zero_le _,fun j e h=>by simp at h⟩
 rintro i ⟨hle_i,ho⟩
 try simp only [Ca,Na]
 obtain ⟨hdn,hdp,hdt,hdv⟩:=dAll_n (xs.take i) x
 rw [List.length_take] at hdn
 refine qL (qC (.q 0 (.done)) Kr ?_)
 refine qB rfl rfl rfl rfl rfl (cB _ _ _ _) ?_
 refine qR (qQ (qL ?_))
 refine qD rfl (fun hlt=>?_) (fun hlt=>?_)
 ·
  refine qF (qQ (qL (kC (qL (qC (.q 0 (.q 1 (.q 2 ((.l 3 [] (.q 4 ((.l 5 [] (.done))))))))) Kr ?_)))))
  refine qK rfl rfl rfl rfl ?_
  obtain ⟨e,he⟩:=cR (l:=xs) (i:=i) (by first | omega | (simp;done) | (simp;omega))
  refine q_idxR (sz:=2) (k:=i) rfl rfl rfl rfl rfl υ'48 ζ'47 (hr) he enc3_len (by first | rfl | omega) Om ?_
  intro ib17 io17 _ hd17
  refine q_loadN (vs:=[_,_,_]) rfl rfl rfl rfl α'47 ζ'47 Tk (hd17) rfl ?_
  refine sD rfl rfl rfl ω'47 (zs:=[.int .i64 0,.int .i64 0,.int .i64 0]) rfl ?_
  intro b7
  refine qV (qS rfl rfl rfl rfl (kH (j:=0) rfl rfl rfl rfl ζ'47 (us:=[_,_,_]) rfl rfl rfl Tk Az (by first | decide | (simp;done) | omega) ?_))
  simp only [setL,List.set]
  refine qV (qR (qW [0,1,6,7,12,13,14] (e':=[(0,_),(1,_),(6,_),(7,_),(12,_),(13,_),(14,_)]) rfl ?_))
  refine qQ (qL (qC (.q 0 (.q 1 ((.l 2 [] (.q 3 (.done)))))) Kr ?_))
  refine qK rfl rfl rfl rfl (kG rfl rfl rfl rfl α'47 ζ'47 Tk 0 (us:=[_,_,_]) Az rfl rfl ?_)
  have sp_2:=event_spec pa pc po poc b (dAll x (xs.take i)) (dAll_inv hx _) Om pl (hdp.trans hpl) e.1 e.2.1 e.2.2
  refine qM rfl rfl rfl rfl rfl rfl κ'16 (sp_2) Ts ?_
  rintro ⟨⟩ -
  try simp only [Ca,Na]
  refine qV (qS rfl rfl rfl rfl (qR (qW [0,1,6,8,12,13,14] (e':=[(0,_),(1,_),(6,_),(8,_),(12,_),(13,_),(14,_)]) rfl ?_)))
  refine qQ (qL (qC (.q 0 (.q 1 (.done))) Kr ?_))
  refine qK rfl rfl rfl rfl (qB rfl rfl rfl rfl rfl (b_neq _ _ _ _) ?_)
  refine qR (qQ ?_)
  refine qD rfl (fun hne=>?_) (fun hne=>?_)
  ·
   have hncan:¬ canE (dAll x (xs.take i)) e:=fun h=>hne (if_pos h)
   rw [show deF (dAll x (xs.take i)) e.1 e.2.1 e.2.2=dAll x (xs.take i) from if_neg hncan]
   refine qL (qC (.q 0 (.q 1 (.q 2 (.q 3 (.done))))) Kr ?_)
   refine qK rfl rfl rfl rfl (qK rfl rfl rfl rfl (qS rfl rfl rfl rfl (qS rfl rfl rfl rfl (qR (qW [4,5] (e':=[(4,_),(5,_)]) rfl ?_)))))
   refine qQ (qJ (kM (qN (qN (kM (qN (ret2 rfl rfl rfl (i) (by rw [if_neg Om,show deE (dAll x (xs.take i)) e.1 e.2.1 e.2.2=6 from if_neg hncan]) (by exact ⟨by omega,ho,fun _ e2 h2=>by rw [he] at h2;cases h2;exact hncan⟩) ?_)))))))
   exact Tf
  have hcan:canE (dAll x (xs.take i)) e:=Classical.byContradiction fun h=>hne (by rw [show deE (dAll x (xs.take i)) e.1 e.2.1 e.2.2=6 from if_neg h];decide)
  refine qF (kX (qQ (qC (.q 0 (.q 1 (.done))) Kr ?_)))
  refine qB rfl rfl rfl rfl rfl (cV _ (by exact kP Om Om)) ?_
  refine qK rfl rfl rfl rfl (qR (qW [0,1,12,13,14] (e':=[(0,_),(1,_),(12,_),(13,_),(14,_)]) rfl ?_))
  refine qQ ?_
  rw [show deF (dAll x (xs.take i)) e.1 e.2.1 e.2.2=dAll x (xs.take (i+1)) from (dAll_next he).symm]
  refine kJ (x:=i) (i+1) ?_ ?_ ?_ ?_
  · exact ⟨by omega,okAll_next he ho hcan⟩
  · show n - (i+1) < n - i;omega
  · exact ⟨rfl,rfl,rfl,rfl,rfl,trivial⟩
  · (try simp only [Ca,Na]);exact Tf
 refine cW (qY (qY (kK (qQ (qL (qC (.q 0 (.q 1 (.q 2 (.q 3 (.done))))) Kr ?_))))))
 refine qK rfl rfl rfl rfl (cJ rfl rfl rfl rfl υ'48 ?_)
 refine qS rfl rfl rfl rfl (qS rfl rfl rfl rfl (qR (qW [4,5] (e':=[(4,_),(5,_)]) rfl ?_)))
 refine qQ (qJ ?_)
 obtain rfl:i=n:=by omega
 refine ret2 rfl rfl rfl (i) (by rw [if_pos rfl]) (by exact ⟨Nat.le_refl _,ho,fun h=>absurd h (Nat.lt_irrefl _)⟩) ?_
 exact Tf
end Go.Ab.Dj
set_option linter.unusedVariables false
set_option linter.unusedSimpArgs false
set_option maxRecDepth 100000
namespace Go.Ab.Rv
open Go Go.Proofs Go.Ab Go.Ab.Fe Go.Ab.Vc Go.Ab.Dj
abbrev PV:=Option Addr × Option Addr × Int
def encY (x:PV):List Value:=[.pointer x.1,.pointer x.2.1,.int .i64 x.2.2]
theorem encY_len:∀ x,(encY x).length=3:=fun _=>rfl
theorem encY_one:∀ x,(encY x).all Value.oneCell'=true:=fun _=>rfl
/-- The flag as the document keeps it. -/
def fgI (w:V4):Int:=if w.2.2.2=true then w.2.2.1 else -1
theorem fg_acc {n k t:Int} {l:List Int} {w:V4} (hnn:w.2.2.2=true→0≤w.2.2.1) (hn:0≤n):fgI (acW n k t l w)=(if raceF k l w∧fgI w < 0 then n else fgI w)∧((acW n k t l w).2.2.2=true→0≤(acW n k t l w).2.2.1):=by
  unfold acW fgI
  obtain ⟨w1,w2,w3,w4⟩:=w
  simp only at hnn ⊢
  by_cases hr:raceF k l (w1,w2,w3,w4)
  · cases w4 with
    | true =>
      have h3:=hnn rfl
      have h4:¬ w3 < 0:=by omega
      simp [hr,h3,h4]
    | false=>simp [hr,hn]
  · cases w4 with
    | true =>
      have h3:=hnn rfl
      simp [hr,h3]
    | false=>simp [hr]
def rvarA (v:PV) (t:V4):HProp:=fun h=>v.2.2=fgI t∧(t.2.2.2=true→0≤t.2.2.1)∧Sat [ckA v.1 t.1,ckA v.2.1 t.2.1] h
def rdR (pa:Option Addr) (pc b:Nat) (x:DS):HProp:=fun h=>∃ vb Xa Xc VX,VX.length=x.vs.length∧Sat [cells b 0 [.pointer (some ⟨vb,0,none⟩),.slice Xa VX.length Xc,.int .i64 x.cost],rvR pa pc vb x.v,own 3 encY Xa Xc VX,restL rvarA VX x.vs []] h
section
variable {w0:World} {ds:List Deferred} {n:Nat} {e:Env} {Γ Γ':List HProp} {X:Act→World→Prop}
theorem rd_open {pa:Option Addr} {pc b:Nat} {x:DS} (tk:Take Γ (rdR pa pc b x) Γ') (k:∀ vb Xa Xc VX,VX.length=x.vs.length→Le (St w0 ds n e (cells b 0 [.pointer (some ⟨vb,0,none⟩),.slice Xa VX.length Xc,.int .i64 x.cost]::rvR pa pc vb x.v::own 3 encY Xa Xc VX::restL rvarA VX x.vs []::Γ')) X):Le (St w0 ds n e Γ) X:=fun a w s=>by
  obtain ⟨h1,l1,⟨vb,Xa,Xc,VX,hV,a1⟩,s1⟩:=tk _ s.heap
  exact k vb Xa Xc VX hV a w ⟨s.defers,s.size,s.env,Bun.unfold ⟨h1,l1,a1,s1⟩,s.amb⟩
theorem rd_fold {b:Nat} (x:DS) {pa:Option Addr} {pc vb Xc n1:Nat} {Xa:Option Addr} {y:VS} {VX:List PV} {Y:List V4} {z:Int} (tk:Takes Γ [cells b 0 [.pointer (some ⟨vb,0,none⟩),.slice Xa n1 Xc,.int .i64 z],rvR pa pc vb y,own 3 encY Xa Xc VX,restL rvarA VX Y []] Γ') (h1:n1=VX.length) (hx:x=⟨y,Y,z⟩) (hV:VX.length=Y.length)
    (k:Le (St w0 ds n e (rdR pa pc b x::Γ')) X):Le (St w0 ds n e Γ) X:=cQ (fun h s=>by
  subst h1 hx
  obtain ⟨h1,l1,a1,s1⟩:=Bun.fold (tk h s)
  exact ⟨h1,l1,⟨vb,Xa,Xc,VX,hV,a1⟩,s1⟩) k
theorem s_rvar {v:PV} {t:V4} (tk:Take Γ (rvarA v t) Γ') (k:∀ rb wb,v=(some ⟨rb,0,none⟩,some ⟨wb,0,none⟩,fgI t)→(t.2.2.2=true→0≤t.2.2.1)→Le (St w0 ds n e (ckB rb t.1::ckB wb t.2.1::Γ')) X):Le (St w0 ds n e Γ) X:=fun a w s=>by
  obtain ⟨h1,l1,⟨a1,a2,a3⟩,s1⟩:=tk _ s.heap
  obtain ⟨v1,v2,v3⟩:=v
  have s2:=Bun.unfold (Γ:=[ckA v1 t.1,ckA v2 t.2.1]) ⟨h1,l1,a3,s1⟩
  obtain ⟨h2,l2,⟨rb,hb,q⟩,s3⟩:=s2
  obtain ⟨h3,l3,⟨wb,hb2,q2⟩,s4⟩:=s3
  simp only at a1 hb hb2
  exact k rb wb (by rw [a1,hb,hb2]) a2 a w ⟨s.defers,s.size,s.env,⟨h2,l2,q,h3,l3,q2,s4⟩,s.amb⟩
theorem s_rvarF (rb wb:Nat) (f:Int) (t:V4) {t1 t2:List Int} (tk:Takes Γ [ckB rb t1,ckB wb t2] Γ') (e1:t1=t.1) (e2:t2=t.2.1) (ef:f=fgI t) (hnn:t.2.2.2=true→0≤t.2.2.1) (k:Le (St w0 ds n e (rvarA (some ⟨rb,0,none⟩,some ⟨wb,0,none⟩,f) t::Γ')) X):Le (St w0 ds n e Γ) X:=cQ (fun h s=>by
  subst e1 e2
  obtain ⟨h2,l2,q,h3,l3,q2,s4⟩:=tk h s
  obtain ⟨h1,l1,a1,s1⟩:=Bun.fold (Γ:=[ckA (some ⟨rb,0,none⟩) t.1,ckA (some ⟨wb,0,none⟩) t.2.1]) ⟨h2,l2,⟨rb,rfl,q⟩,h3,l3,⟨wb,rfl,q2⟩,s4⟩
  exact ⟨h1,l1,⟨ef,hnn,a1⟩,s1⟩) k
end
theorem there_spec (pa:Option Addr) (pc b:Nat) (x:DS) (z:Int):Spec Tryz.prog 92 [.pointer (some ⟨b,0,none⟩),.int .i64 z] [rdR pa pc b x] (fun (_:Unit)=>.bool (decide (0≤z∧z < (x.vs.length:Int)))) (fun _=>True) (fun _=>[rdR pa pc b x]):=by
 refine kQ (n:=20) Tryz.func92 rfl rfl rfl ?_
 intro Γ w0
 simp only [argE,Ca,Na,Zd,Nat.reduceAdd]
 refine qL (qC (.q 0 (.done)) Kr ?_)
 refine qS rfl rfl rfl rfl (qR (qQ (qL (rd_open (pa:=pa) (pc:=pc) (b:=b) (x:=x) Tk fun vb Xa Xc VX hVX=>?_))))
 refine qC (.q 0 (.q 1 (.q 2 (.q 3 (.q 4 (.q 5 (.q 6 (.q 7 (.q 8 (.q 9 (.q 10 (.q 11 (.q 12 (.q 13 (.q 14 (.q 15 (.done))))))))))))))))) Kr ?_
 refine qK rfl rfl rfl rfl (q_ne_nil rfl rfl rfl rfl υ'30 ?_)
 refine kB 6 rfl (v':=.bool true) rfl ?_
 refine qK rfl rfl rfl rfl (qK rfl rfl rfl rfl (qB rfl rfl rfl rfl rfl (b_geq _ _ _ _) ?_))
 refine kW rfl rfl rfl rfl rfl (qK rfl rfl rfl rfl ?_)
 refine cF 11 rfl (fun hz=>?_) (fun hz=>?_)
 ·
  refine qK rfl rfl rfl rfl (qK rfl rfl rfl rfl (qX rfl rfl rfl rfl (qG (k:=1) rfl rfl rfl rfl υ'101 rfl ζ'99 rfl ?_)))
  refine qP (j:=1) rfl rfl rfl rfl α'99 Tk Az (by rfl) ?_
  refine cJ rfl rfl rfl rfl υ'99 ?_
  refine qB rfl rfl rfl rfl rfl (cB _ _ _ _) ?_
  refine kW rfl rfl rfl rfl rfl (qS rfl rfl rfl rfl (qR (qW [4] (e':=[(4,_)]) rfl ?_)))
  refine qQ (qJ (rd_fold (b:=b) x (pa:=pa) (pc:=pc) (vb:=vb) (Xa:=Xa) (Xc:=Xc) (VX:=VX) Ts (by first | rfl | simp) (by rfl) (by first | exact hVX | simpa using hVX) ?_))
  refine kD rfl rfl (()) (by congr 1;first | (rw [decide_eq_decide];rw [hVX];omega) | (symm;rw [decide_eq_false_iff_not];omega)) (by trivial) ?_
  exact Tf
 refine qZ rfl rfl rfl rfl (qZ rfl rfl rfl rfl (qZ rfl rfl rfl rfl (qZ rfl rfl rfl rfl (qZ rfl rfl rfl rfl (qZ rfl rfl rfl rfl (qZ rfl rfl rfl rfl (kN rfl rfl rfl rfl rfl (qS rfl rfl rfl rfl ?_))))))))
 refine qR (qW [4] (e':=[(4,_)]) rfl ?_)
 refine qQ (qJ (rd_fold (b:=b) x (pa:=pa) (pc:=pc) (vb:=vb) (Xa:=Xa) (Xc:=Xc) (VX:=VX) Ts (by first | rfl | simp) (by rfl) (by first | exact hVX | simpa using hVX) ?_))
 refine kD rfl rfl (()) (by congr 1;first | (rw [decide_eq_decide];rw [hVX];omega) | (symm;rw [decide_eq_false_iff_not];omega)) (by trivial) ?_
 exact Tf
theorem rcost_spec (pa:Option Addr) (pc b:Nat) (x:DS):Spec Tryz.prog 57 [.pointer (some ⟨b,0,none⟩)] [rdR pa pc b x] (fun (_:Unit)=>.int .i64 x.cost) (fun _=>True) (fun _=>[rdR pa pc b x]):=by
 refine kQ (n:=9) Tryz.func57 rfl rfl rfl ?_
 intro Γ w0
 simp only [argE,Ca,Na,Zd,Nat.reduceAdd]
 refine qL (qC (.q 0 (.done)) Kr ?_)
 refine qS rfl rfl rfl rfl (qR (qQ (qL (qL (rd_open (pa:=pa) (pc:=pc) (b:=b) (x:=x) Tk fun vb Xa Xc VX hVX=>?_)))))
 refine qC (.q 0 (.q 1 (.done))) Kr ?_
 refine qK rfl rfl rfl rfl (cG rfl rfl rfl rfl υ'30 ?_)
 refine kB 4 rfl (v':=.bool false) rfl ?_
 refine qR (qQ (kZ rfl ?_))
 refine qF (qQ (qL (qC (.q 0 (.q 1 (.q 2 (.q 3 (.q 4 (.done)))))) Kr ?_)))
 refine qK rfl rfl rfl rfl (qX rfl rfl rfl rfl (qG (k:=2) rfl rfl rfl rfl υ'101 rfl ζ'3 rfl ?_))
 refine qP (j:=2) rfl rfl rfl rfl α'3 Tk Az (by rfl) ?_
 refine qS rfl rfl rfl rfl (qR (qW [2] (e':=[(2,_)]) rfl ?_))
 refine qQ (qJ (rd_fold (b:=b) x (pa:=pa) (pc:=pc) (vb:=vb) (Xa:=Xa) (Xc:=Xc) (VX:=VX) Ts (by first | rfl | simp) (by rfl) (by first | exact hVX | simpa using hVX) ?_))
 refine kD rfl rfl (()) (by first | rfl | (first | rfl | (congr 1;done) | (congr 1 <;> first | rfl | omega | (simp;done) | (simp;omega)))) (by trivial) ?_
 exact Tf
theorem rlen_spec (pa:Option Addr) (pc b:Nat) (x:DS) (hx:DInv x):Spec Tryz.prog 55 [.pointer (some ⟨b,0,none⟩)] [rdR pa pc b x] (fun (_:Unit)=>.int .i64 x.v.ck.n) (fun _=>True) (fun _=>[rdR pa pc b x]):=by
 refine kQ (n:=13) Tryz.func55 rfl rfl rfl ?_
 intro Γ w0
 simp only [argE,Ca,Na,Zd,Nat.reduceAdd]
 refine qL (qC (.q 0 (.done)) Kr ?_)
 refine qS rfl rfl rfl rfl (qR (qQ (qL (qL (rd_open (pa:=pa) (pc:=pc) (b:=b) (x:=x) Tk fun vb Xa Xc VX hVX=>?_)))))
 refine qC (.q 0 (.q 1 (.done))) Kr ?_
 refine qK rfl rfl rfl rfl (cG rfl rfl rfl rfl υ'30 ?_)
 refine kB 4 rfl (v':=.bool false) rfl ?_
 refine qR (qQ (kZ rfl ?_))
 refine qF (qQ (qL (rv_open (pa:=pa) (pc:=pc) (b:=vb) (x:=x.v) Tk fun cb Ta Tc La Lc Oa Oc Ra Rc VT VL VO VR YR hVT hVL hVO hVR hK=>?_)))
 refine qC (.q 0 (.q 1 (.q 2 (.q 3 (.q 4 (.q 5 (.q 6 ((.l 7 [] (.q 8 (.done))))))))))) Kr ?_
 refine qK rfl rfl rfl rfl (qX rfl rfl rfl rfl (qG (k:=0) rfl rfl rfl rfl υ'101 rfl ζ'96 rfl ?_))
 refine qP (j:=0) rfl rfl rfl rfl α'96 Tk Az (by rfl) ?_
 refine qX rfl rfl rfl rfl (qG (k:=0) rfl rfl rfl rfl υ'111 rfl ζ'107 rfl ?_)
 refine qP (j:=0) rfl rfl rfl rfl α'107 Tk Az (by rfl) ?_
 have sp_1:=Fe.rlen_spec pa pc cb x.v.ck
 refine qM rfl rfl rfl rfl rfl rfl κ'37 (sp_1) Ts ?_
 rintro ⟨⟩ -
 try simp only [Ca,Na]
 refine qV (qS rfl rfl rfl rfl (qR (qW [2] (e':=[(2,_)]) rfl ?_)))
 refine qQ (qJ (rv_fold (b:=vb) x.v (pa:=pa) (pc:=pc) (cb:=cb) (Ta:=Ta) (Tc:=Tc) (La:=La) (Lc:=Lc) (Oa:=Oa) (Oc:=Oc) (Ra:=Ra) (Rc:=Rc) (VT:=VT) (VL:=VL) (VO:=VO) (VR:=VR) (YR:=YR) Ts (by first | rfl | simp) (by first | rfl | simp) (by first | rfl | simp) (by first | rfl | simp) rfl rfl rfl rfl hVT hVL hVO hVR hK ?_))
 refine rd_fold (b:=b) x (pa:=pa) (pc:=pc) (vb:=vb) (Xa:=Xa) (Xc:=Xc) (VX:=VX) Ts (by first | rfl | simp) (by rfl) (by first | exact hVX | simpa using hVX) ?_
 refine kD rfl rfl (()) (by first | rfl | (first | rfl | (congr 1;done) | (congr 1 <;> first | rfl | omega | (simp;done) | (simp;omega)))) (by trivial) ?_
 exact Tf
theorem rvector_spec (pa:Option Addr) (pc b:Nat) (x:DS) (hx:DInv x) (z:Int):Spec Tryz.prog 53 [.pointer (some ⟨b,0,none⟩),.int .i64 z] [rdR pa pc b x] (fun (r:Option Addr × Nat)=>.slice r.1 (thF x.v z).length r.2) (fun r=>True) (fun r=>[rdR pa pc b x,own 1 encU r.1 r.2 (thF x.v z)]):=by
 refine kQ (n:=13) Tryz.func53 rfl rfl rfl ?_
 intro Γ w0
 simp only [argE,Ca,Na,Zd,Nat.reduceAdd]
 refine qL (qC (.q 0 (.done)) Kr ?_)
 refine qS rfl rfl rfl rfl (qR (qQ (qL (qL (rd_open (pa:=pa) (pc:=pc) (b:=b) (x:=x) Tk fun vb Xa Xc VX hVX=>?_)))))
 refine qC (.q 0 (.q 1 (.done))) Kr ?_
 refine qK rfl rfl rfl rfl (cG rfl rfl rfl rfl υ'30 ?_)
 refine kB 6 rfl (v':=.bool false) rfl ?_
 refine qR (qQ (kZ rfl ?_))
 refine qF (qQ (qL (qC (.q 0 (.q 1 (.q 2 (.q 3 (.q 4 ((.l 5 [] (.q 6 (.done))))))))) Kr ?_)))
 refine qK rfl rfl rfl rfl (qX rfl rfl rfl rfl (qG (k:=0) rfl rfl rfl rfl υ'101 rfl ζ'96 rfl ?_))
 refine qP (j:=0) rfl rfl rfl rfl α'96 Tk Az (by rfl) ?_
 refine qK rfl rfl rfl rfl ?_
 have sp_1:=vlist_spec pa pc vb x.v hx.v z
 refine qM rfl rfl rfl rfl rfl rfl Tryz.call94 (sp_1) Ts ?_
 rintro ⟨qa,qc⟩ -
 try simp only [Ca,Na]
 refine qV (qS rfl rfl rfl rfl (qR (qW [4] (e':=[(4,_)]) rfl ?_)))
 refine qQ (qJ (rd_fold (b:=b) x (pa:=pa) (pc:=pc) (vb:=vb) (Xa:=Xa) (Xc:=Xc) (VX:=VX) Ts (by first | rfl | simp) (by rfl) (by first | exact hVX | simpa using hVX) ?_))
 refine kD rfl rfl ((qa,qc)) (by first | rfl | (first | rfl | (congr 1;done) | (congr 1 <;> first | rfl | omega | (simp;done) | (simp;omega)))) (by trivial) ?_
 exact Tf
theorem rreads_spec (pa:Option Addr) (pc b:Nat) (x:DS) (hx:DInv x) (z:Int):Spec Tryz.prog 49 [.pointer (some ⟨b,0,none⟩),.int .i64 z] [rdR pa pc b x] (fun (r:Option Addr × Nat)=>.tuple #[.slice r.1 (rdsF (wF x z)).length r.2,.bool (wF x z).isSome]) (fun r=>True) (fun r=>[rdR pa pc b x,own 1 encU r.1 r.2 (rdsF (wF x z))]):=by
 refine kQ (n:=19) Tryz.func49 rfl rfl rfl ?_
 intro Γ w0
 simp only [argE,Ca,Na,Zd,Nat.reduceAdd]
 refine qL (qC (.q 0 (.q 1 (.done))) Kr ?_)
 refine qS rfl rfl rfl rfl (qS rfl rfl rfl rfl (qR (qQ (qL (qL (qC (.q 0 (.q 1 ((.l 2 [] (.q 3 (.done)))))) Kr ?_))))))
 refine qK rfl rfl rfl rfl (qK rfl rfl rfl rfl ?_)
 have sp_1:=Rv.there_spec pa pc b x z
 refine qM rfl rfl rfl rfl rfl rfl κ'92 (sp_1) Ts ?_
 rintro ⟨⟩ -
 try simp only [Ca,Na]
 refine qV (sY rfl rfl rfl rfl ?_)
 refine qR (qW [0,1,9] (e':=[(0,_),(1,_),(9,_)]) rfl ?_)
 refine qQ ?_
 refine c_cond_np rfl (fun hz=>?_) (fun hz=>?_)
 ·
  have hwN:wF x z=none:=wF_none Om
  refine qL (qC (.q 0 (.q 1 (.done))) Kr ?_)
  refine qS rfl rfl rfl rfl (qS rfl rfl rfl rfl (qR (qQ (qJ (qN (cQ (fun _ h=>sR (sz:=1) (enc:=encU) h) ?_))))))
  refine ret2 rfl rfl rfl ((none,0)) (by rw [hwN];rfl) (by trivial) ?_
  simp only [hwN,rdsF,Option.map_none,Option.getD_none]
  exact Tf
 obtain ⟨i,rfl⟩:=Int.eq_ofNat_of_zero_le hz.1
 obtain ⟨w,hw⟩:=cR (l:=x.vs) (i:=i) Om
 have hwF:wF x ((i:Nat):Int)=some w:=by rw [wF_nat,hw]
 refine rd_open (pa:=pa) (pc:=pc) (b:=b) (x:=x) Tk fun vb Xa Xc VX hVX=>?_
 refine cZ (res:=rvarA) (V:=VX) (Y:=x.vs) (S:=[]) i Tk (by simp) hw fun v hv=>?_
 refine s_rvar Tk fun rb wb hvq hnn=>?_
 subst hvq
 refine qF (qQ (qL (qC (.q 0 (.q 1 (.q 2 (.q 3 (.q 4 (.q 5 (.q 6 (.q 7 ((.l 8 [] (.q 9 (.q 10 (.done))))))))))))) Kr ?_)))
 refine qK rfl rfl rfl rfl (qX rfl rfl rfl rfl (qG (k:=1) rfl rfl rfl rfl υ'101 rfl ζ'99 rfl ?_))
 refine qP (j:=1) rfl rfl rfl rfl α'99 Tk Az (by rfl) ?_
 refine qK rfl rfl rfl rfl (kF (sz:=2) (k:=i) (enc:=encY) (xs:=VX) rfl rfl rfl rfl rfl υ'99 ζ'105 hv (by first | rfl | omega) Om Tk ?_)
 intro ib15 io15 ha15 hl15 hc15
 refine qG (k:=0) rfl rfl rfl rfl υ'105 rfl ζ'102 rfl ?_
 refine kS (v:=(.pointer (some ⟨rb,0,none⟩))) (j:=0) (k':=i) (enc:=encY) (off:=io15) rfl rfl rfl rfl α'102 ha15 encY_len hv Tk (by first | rfl | exact (Ad _).symm | omega) (by rfl) ?_
 have sp_2:=Rv.list_spec rb w.1
 refine qM rfl rfl rfl rfl rfl rfl κ'93 (sp_2) Ts ?_
 rintro ⟨qa,qc⟩ -
 try simp only [Ca,Na]
 refine qV (qS rfl rfl rfl rfl (qS rfl rfl rfl rfl (qR (qW [4,5] (e':=[(4,_),(5,_)]) rfl ?_))))
 refine qQ (qJ (s_rvarF rb wb (fgI w) w Ts rfl rfl rfl hnn ?_))
 refine cY (res:=rvarA) (V:=VX) (Y:=x.vs) (S:=[]) i Ts (by simp) hv hw ?_
 refine rd_fold (b:=b) x (pa:=pa) (pc:=pc) (vb:=vb) (Xa:=Xa) (Xc:=Xc) (VX:=VX) Ts (by first | rfl | simp) (by rfl) (by first | exact hVX | simpa using hVX) ?_
 refine ret2 rfl rfl rfl ((qa,qc)) (by rw [hwF];rfl) (by trivial) ?_
 simp only [hwF,rdsF,Option.map_some,Option.getD_some]
 exact Tf
theorem rwrites_spec (pa:Option Addr) (pc b:Nat) (x:DS) (hx:DInv x) (z:Int):Spec Tryz.prog 52 [.pointer (some ⟨b,0,none⟩),.int .i64 z] [rdR pa pc b x] (fun (r:Option Addr × Nat)=>.tuple #[.slice r.1 (wrsF (wF x z)).length r.2,.bool (wF x z).isSome]) (fun r=>True) (fun r=>[rdR pa pc b x,own 1 encU r.1 r.2 (wrsF (wF x z))]):=by
 refine kQ (n:=19) Tryz.func52 rfl rfl rfl ?_
 intro Γ w0
 simp only [argE,Ca,Na,Zd,Nat.reduceAdd]
 refine qL (qC (.q 0 (.q 1 (.done))) Kr ?_)
 refine qS rfl rfl rfl rfl (qS rfl rfl rfl rfl (qR (qQ (qL (qL (qC (.q 0 (.q 1 ((.l 2 [] (.q 3 (.done)))))) Kr ?_))))))
 refine qK rfl rfl rfl rfl (qK rfl rfl rfl rfl ?_)
 have sp_1:=Rv.there_spec pa pc b x z
 refine qM rfl rfl rfl rfl rfl rfl κ'92 (sp_1) Ts ?_
 rintro ⟨⟩ -
 try simp only [Ca,Na]
 refine qV (sY rfl rfl rfl rfl ?_)
 refine qR (qW [0,1,9] (e':=[(0,_),(1,_),(9,_)]) rfl ?_)
 refine qQ ?_
 refine c_cond_np rfl (fun hz=>?_) (fun hz=>?_)
 ·
  have hwN:wF x z=none:=wF_none Om
  refine qL (qC (.q 0 (.q 1 (.done))) Kr ?_)
  refine qS rfl rfl rfl rfl (qS rfl rfl rfl rfl (qR (qQ (qJ (qN (cQ (fun _ h=>sR (sz:=1) (enc:=encU) h) ?_))))))
  refine ret2 rfl rfl rfl ((none,0)) (by rw [hwN];rfl) (by trivial) ?_
  simp only [hwN,wrsF,Option.map_none,Option.getD_none]
  exact Tf
 obtain ⟨i,rfl⟩:=Int.eq_ofNat_of_zero_le hz.1
 obtain ⟨w,hw⟩:=cR (l:=x.vs) (i:=i) Om
 have hwF:wF x ((i:Nat):Int)=some w:=by rw [wF_nat,hw]
 refine rd_open (pa:=pa) (pc:=pc) (b:=b) (x:=x) Tk fun vb Xa Xc VX hVX=>?_
 refine cZ (res:=rvarA) (V:=VX) (Y:=x.vs) (S:=[]) i Tk (by simp) hw fun v hv=>?_
 refine s_rvar Tk fun rb wb hvq hnn=>?_
 subst hvq
 refine qF (qQ (qL (qC (.q 0 (.q 1 (.q 2 (.q 3 (.q 4 (.q 5 (.q 6 (.q 7 ((.l 8 [] (.q 9 (.q 10 (.done))))))))))))) Kr ?_)))
 refine qK rfl rfl rfl rfl (qX rfl rfl rfl rfl (qG (k:=1) rfl rfl rfl rfl υ'101 rfl ζ'99 rfl ?_))
 refine qP (j:=1) rfl rfl rfl rfl α'99 Tk Az (by rfl) ?_
 refine qK rfl rfl rfl rfl (kF (sz:=2) (k:=i) (enc:=encY) (xs:=VX) rfl rfl rfl rfl rfl υ'99 ζ'105 hv (by first | rfl | omega) Om Tk ?_)
 intro ib15 io15 ha15 hl15 hc15
 refine qG (k:=1) rfl rfl rfl rfl υ'105 rfl ζ'102 rfl ?_
 refine kS (v:=(.pointer (some ⟨wb,0,none⟩))) (j:=1) (k':=i) (enc:=encY) (off:=io15) rfl rfl rfl rfl α'102 ha15 encY_len hv Tk (by first | rfl | exact (Ad _).symm | omega) (by rfl) ?_
 have sp_2:=Rv.list_spec wb w.2.1
 refine qM rfl rfl rfl rfl rfl rfl κ'93 (sp_2) Ts ?_
 rintro ⟨qa,qc⟩ -
 try simp only [Ca,Na]
 refine qV (qS rfl rfl rfl rfl (qS rfl rfl rfl rfl (qR (qW [4,5] (e':=[(4,_),(5,_)]) rfl ?_))))
 refine qQ (qJ (s_rvarF rb wb (fgI w) w Ts rfl rfl rfl hnn ?_))
 refine cY (res:=rvarA) (V:=VX) (Y:=x.vs) (S:=[]) i Ts (by simp) hv hw ?_
 refine rd_fold (b:=b) x (pa:=pa) (pc:=pc) (vb:=vb) (Xa:=Xa) (Xc:=Xc) (VX:=VX) Ts (by first | rfl | simp) (by rfl) (by first | exact hVX | simpa using hVX) ?_
 refine ret2 rfl rfl rfl ((qa,qc)) (by rw [hwF];rfl) (by trivial) ?_
 simp only [hwF,wrsF,Option.map_some,Option.getD_some]
 exact Tf
end Go.Ab.Rv
set_option linter.unusedVariables false
set_option linter.unusedSimpArgs false
set_option maxRecDepth 100000
namespace Go.Ab.Rv
open Go Go.Proofs Go.Ab Go.Ab.Fe Go.Ab.Vc Go.Ab.Dj
theorem fg_pos {w:V4} (hnn:w.2.2.2=true→0≤w.2.2.1):0≤fgI w↔w.2.2.2=true:=by
  unfold fgI
  by_cases h:w.2.2.2=true
  · rw [if_pos h];exact ⟨fun _=>h,fun _=>hnn h⟩
  · rw [if_neg h];exact ⟨fun q=>absurd q (by decide),fun q=>absurd q h⟩
/-- What is told of a variable's flag; of one without a flag the number is 0. -/
structure FgOk (x:DS):Prop where
  z:∀ w∈x.vs,w.2.2.2=false→w.2.2.1=0
theorem fgok_new {th va vo lk:Int} {pl:List Int}:FgOk (dNew th va vo lk pl):=⟨fun w hw _=>by rw [(List.mem_replicate.1 hw).2];rfl⟩
theorem fgok_ac {n k t:Int} {l:List Int} {w:V4} (h:w.2.2.2=false→w.2.2.1=0):(acW n k t l w).2.2.2=false→(acW n k t l w).2.2.1=0:=by
  unfold acW
  obtain ⟨w1,w2,w3,w4⟩:=w
  simp only at h ⊢
  intro h2
  obtain ⟨h3,h4⟩:=Bool.or_eq_false_iff.1 h2
  rw [if_neg (fun q=>(of_decide_eq_false h4) q.1)]
  exact h h3
theorem fgok_de {x:DS} (h:FgOk x) (k t o:Int):FgOk (deF x k t o):=by
  unfold deF
  split
  · refine ⟨fun w hw=>?_⟩
    change w∈acF x k t o at hw
    unfold acF at hw
    split at hw
    · rcases List.mem_or_eq_of_mem_set hw with hw | rfl
      · exact h.z w hw
      · refine fgok_ac ?_
        rcases getD_mem' x.vs o.toNat v0 with q | q
        · rw [q];exact fun _=>rfl
        · exact h.z _ q
    · exact h.z w hw
  · exact h
theorem rflagged_spec (pa:Option Addr) (pc b:Nat) (x:DS) (hx:DInv x) (hfz:FgOk x) (z:Int):Spec Tryz.prog 47 [.pointer (some ⟨b,0,none⟩),.int .i64 z] [rdR pa pc b x] (fun (_:Unit)=>.tuple #[.int .i64 (fgF (wF x z)),.bool (fdF (wF x z))]) (fun _=>True) (fun _=>[rdR pa pc b x]):=by
 refine kQ (n:=29) Tryz.func47 rfl rfl rfl ?_
 intro Γ w0
 simp only [argE,Ca,Na,Zd,Nat.reduceAdd]
 refine qL (qC (.q 0 (.q 1 (.done))) Kr ?_)
 refine qS rfl rfl rfl rfl (qS rfl rfl rfl rfl (qR (qQ (qL (qL (qC (.q 0 (.q 1 ((.l 2 [] (.q 3 (.q 4 (.q 5 (.q 6 (.q 7 (.q 8 (.q 9 (.q 10 (.q 11 (.q 12 (.q 13 (.q 14 (.done))))))))))))))))) Kr ?_))))))
 refine qK rfl rfl rfl rfl (qK rfl rfl rfl rfl ?_)
 have sp_1:=Rv.there_spec pa pc b x z
 refine qM rfl rfl rfl rfl rfl rfl κ'92 (sp_1) Ts ?_
 rintro ⟨⟩ -
 try simp only [Ca,Na]
 refine qV (sY rfl rfl rfl rfl ?_)
 refine qK rfl rfl rfl rfl ?_
 refine s_bool_np 10 rfl (fun hz=>?_) (fun hz=>?_)
 ·
  have hwN:wF x z=none:=wF_none Om
  refine qZ rfl rfl rfl rfl (qZ rfl rfl rfl rfl (qZ rfl rfl rfl rfl (qZ rfl rfl rfl rfl (qZ rfl rfl rfl rfl (qZ rfl rfl rfl rfl (qZ rfl rfl rfl rfl (qZ rfl rfl rfl rfl (qZ rfl rfl rfl rfl ?_))))))))
  refine kW rfl rfl rfl rfl rfl (qR (qW [0,1,20] (e':=[(0,_),(1,_),(20,_)]) rfl ?_))
  refine qQ (cK rfl ?_)
  refine qL (qC (.q 0 (.q 1 (.done))) Kr ?_)
  refine qS rfl rfl rfl rfl (qS rfl rfl rfl rfl (qR (qQ (qJ (qN (ret2 rfl rfl rfl (()) (by rw [hwN];rfl) (by trivial) ?_))))))
  exact Tf
 obtain ⟨i,rfl⟩:=Int.eq_ofNat_of_zero_le hz.1
 obtain ⟨w,hw⟩:=cR (l:=x.vs) (i:=i) Om
 have hwF:wF x ((i:Nat):Int)=some w:=by rw [wF_nat,hw]
 refine rd_open (pa:=pa) (pc:=pc) (b:=b) (x:=x) Tk fun vb Xa Xc VX hVX=>?_
 refine cZ (res:=rvarA) (V:=VX) (Y:=x.vs) (S:=[]) i Tk (by simp) hw fun v hv=>?_
 refine s_rvar Tk fun rb wb hvq hnn=>?_
 subst hvq
 refine qK rfl rfl rfl rfl (qX rfl rfl rfl rfl (qG (k:=1) rfl rfl rfl rfl υ'101 rfl ζ'99 rfl ?_))
 refine qP (j:=1) rfl rfl rfl rfl α'99 Tk Az (by rfl) ?_
 refine qK rfl rfl rfl rfl (kF (sz:=2) (k:=i) (enc:=encY) (xs:=VX) rfl rfl rfl rfl rfl υ'99 ζ'105 hv (by first | rfl | omega) Om Tk ?_)
 intro ib16 io16 ha16 hl16 hc16
 refine qG (k:=2) rfl rfl rfl rfl υ'105 rfl ζ'3 rfl ?_
 refine kS (v:=(.int .i64 (fgI w))) (j:=2) (k':=i) (enc:=encY) (off:=io16) rfl rfl rfl rfl α'3 ha16 encY_len hv Tk (by first | rfl | exact (Ad _).symm | omega) (by rfl) ?_
 refine qB rfl rfl rfl rfl rfl (cB _ _ _ _) ?_
 refine kN rfl rfl rfl rfl rfl (qR (qW [0,1,20] (e':=[(0,_),(1,_),(20,_)]) rfl ?_))
 refine qQ ?_
 refine qD rfl (fun hng=>?_) (fun hng=>?_)
 ·
  have hgf:w.2.2.2=false:=by
    cases h9:w.2.2.2 with
    | false=>rfl
    | true=>have:=(fg_pos hnn).2 h9;omega
  refine qL (qC (.q 0 (.q 1 (.done))) Kr ?_)
  refine qS rfl rfl rfl rfl (qS rfl rfl rfl rfl (qR (qQ (qJ (qN (s_rvarF rb wb (fgI w) w Ts rfl rfl rfl hnn ?_))))))
  refine cY (res:=rvarA) (V:=VX) (Y:=x.vs) (S:=[]) i Ts (by simp) hv hw ?_
  refine rd_fold (b:=b) x (pa:=pa) (pc:=pc) (vb:=vb) (Xa:=Xa) (Xc:=Xc) (VX:=VX) Ts (by first | rfl | simp) (by rfl) (by first | exact hVX | simpa using hVX) ?_
  refine ret2 rfl rfl rfl (()) (by rw [hwF];show Value.tuple #[.int .i64 0,.bool false]=Value.tuple #[.int .i64 w.2.2.1,.bool w.2.2.2];rw [hgf,hfz.z w (List.mem_of_getElem? hw) hgf]) (by trivial) ?_
  exact Tf
 have hgt:w.2.2.2=true:=(fg_pos hnn).1 Om
 refine qF (qQ (qL (qC (.q 0 (.q 1 (.q 2 (.q 3 (.q 4 (.q 5 (.q 6 (.q 7 (.q 8 (.q 9 (.done))))))))))) Kr ?_)))
 refine qK rfl rfl rfl rfl (qX rfl rfl rfl rfl (qG (k:=1) rfl rfl rfl rfl υ'101 rfl ζ'99 rfl ?_))
 refine qP (j:=1) rfl rfl rfl rfl α'99 Tk Az (by rfl) ?_
 refine qK rfl rfl rfl rfl (kF (sz:=2) (k:=i) (enc:=encY) (xs:=VX) rfl rfl rfl rfl rfl υ'99 ζ'105 hv (by first | rfl | omega) Om Tk ?_)
 intro ib26 io26 ha26 hl26 hc26
 refine qG (k:=2) rfl rfl rfl rfl υ'105 rfl ζ'3 rfl ?_
 refine kS (v:=(.int .i64 (fgI w))) (j:=2) (k':=i) (enc:=encY) (off:=io26) rfl rfl rfl rfl α'3 ha26 encY_len hv Tk (by first | rfl | exact (Ad _).symm | omega) (by rfl) ?_
 refine qS rfl rfl rfl rfl (qS rfl rfl rfl rfl (qR (qW [4,5] (e':=[(4,_),(5,_)]) rfl ?_)))
 refine qQ (qJ (s_rvarF rb wb (fgI w) w Ts rfl rfl rfl hnn ?_))
 refine cY (res:=rvarA) (V:=VX) (Y:=x.vs) (S:=[]) i Ts (by simp) hv hw ?_
 refine rd_fold (b:=b) x (pa:=pa) (pc:=pc) (vb:=vb) (Xa:=Xa) (Xc:=Xc) (VX:=VX) Ts (by first | rfl | simp) (by rfl) (by first | exact hVX | simpa using hVX) ?_
 refine ret2 rfl rfl rfl (()) (by rw [hwF];show Value.tuple #[.int .i64 (fgI w),.bool true]=Value.tuple #[.int .i64 w.2.2.1,.bool w.2.2.2];rw [hgt,fgI,if_pos hgt]) (by trivial) ?_
 exact Tf
theorem rflags_spec (pa:Option Addr) (pc b:Nat) (x:DS) (hx:DInv x):Spec Tryz.prog 45 [.pointer (some ⟨b,0,none⟩)] [rdR pa pc b x] (fun (r:Option Addr × Nat)=>.slice r.1 (flF x.vs).length r.2) (fun r=>True) (fun r=>[rdR pa pc b x,own 2 enc2 r.1 r.2 (flF x.vs)]):=by
 refine kQ (n:=40) Tryz.func45 rfl rfl rfl ?_
 intro Γ w0
 simp only [argE,Ca,Na,Zd,Nat.reduceAdd]
 refine qL (qC (.q 0 (.done)) Kr ?_)
 refine qS rfl rfl rfl rfl (qR (qQ (qL (qC (.q 0 (.done)) Kr ?_))))
 refine qS rfl rfl rfl rfl (qR (qQ (qL (qL ?_))))
 have hva:=hx.v.ck.sh.va
 have hvl:=hx.len
 refine rd_open (pa:=pa) (pc:=pc) (b:=b) (x:=x) Tk fun vb Xa Xc VX hVX=>?_
 refine qC (.q 0 (.q 1 (.done))) Kr ?_
 refine qK rfl rfl rfl rfl (cG rfl rfl rfl rfl υ'30 ?_)
 refine kB 6 rfl (v':=.bool false) rfl ?_
 refine qR (qQ (kZ rfl ?_))
 refine qF (qQ (qL (qL (qC (.q 0 (.done)) Kr ?_))))
 refine qS rfl rfl rfl rfl (qR (qQ (kC (cQ (fun _ h=>sR (sz:=2) (enc:=enc2) h) ?_))))
 refine cH (α:=Nat × Option Addr × Nat) (fun (x_:Nat × Option Addr × Nat)=>match x_ with | (k,ga,gc)=>k≤x.vs.length) (fun (x_:Nat × Option Addr × Nat)=>match x_ with | (k,ga,gc)=>[(3,.slice ga ((flF (x.vs.take k)).length) gc),(4,.int .i64 ((k:Nat):Int))]) (fun (x_:Nat × Option Addr × Nat)=>match x_ with | (k,ga,gc)=>[restL rvarA VX x.vs [],own 2 enc2 ga gc (flF (x.vs.take k))]) (fun (x_:Nat × Option Addr × Nat)=>match x_ with | (k,ga,gc)=>x.vs.length - k) [0] (er:=[(0,_)]) rfl (0,none,0) ?_ (by exact ⟨rfl,rfl,trivial⟩) (by (try dsimp only);(try simp only [Ad,Zd]);rw [List.take_zero,show flF ([]:List V4)=[] from rfl];(repeat ((with_reducible apply Z2);focus (first | (with_reducible (repeat (first | exact Z0 | apply Z1));done) | (repeat (first | exact Z0 | apply Z1)))));exact Z3) ?_
 · exact Nat.zero_le _
 rintro ⟨k,ga,gc⟩ hle_k
 try simp only [Ca,Na]
 have hfl:=flF_len (x.vs.take k)
 rw [List.length_take] at hfl
 refine qL (qL (qC (.q 0 (.q 1 (.q 2 (.q 3 (.q 4 (.q 5 (.q 6 (.done)))))))) Kr ?_))
 refine qK rfl rfl rfl rfl (qK rfl rfl rfl rfl (qX rfl rfl rfl rfl (qG (k:=1) rfl rfl rfl rfl υ'101 rfl ζ'99 rfl ?_)))
 refine qP (j:=1) rfl rfl rfl rfl α'99 Tk Az (by rfl) ?_
 refine cJ rfl rfl rfl rfl υ'99 ?_
 refine qB rfl rfl rfl rfl rfl (cB _ _ _ _) ?_
 refine qR (qW [0,3,4,14] (e':=[(0,_),(3,_),(4,_),(14,_)]) rfl ?_)
 refine qQ ?_
 refine qD rfl (fun hlt=>?_) (fun hlt=>?_)
 ·
  obtain ⟨w,hw⟩:=cR (l:=x.vs) (i:=k) Om
  refine cZ (res:=rvarA) (V:=VX) (Y:=x.vs) (S:=[]) k Tk (by simp) hw fun v hv=>?_
  refine s_rvar Tk fun rb wb hvq hnn=>?_
  subst hvq
  refine qF (qQ (qL (kC (qL (qC (.q 0 (.q 1 (.q 2 (.q 3 (.q 4 (.q 5 (.q 6 (.q 7 (.q 8 (.done)))))))))) Kr ?_)))))
  refine qK rfl rfl rfl rfl (qX rfl rfl rfl rfl (qG (k:=1) rfl rfl rfl rfl υ'101 rfl ζ'99 rfl ?_))
  refine qP (j:=1) rfl rfl rfl rfl α'99 Tk Az (by rfl) ?_
  refine qK rfl rfl rfl rfl (kF (sz:=2) (k:=k) (enc:=encY) (xs:=VX) rfl rfl rfl rfl rfl υ'99 ζ'105 hv (by first | rfl | omega) Om Tk ?_)
  intro ib22 io22 ha22 hl22 hc22
  refine qG (k:=2) rfl rfl rfl rfl υ'105 rfl ζ'3 rfl ?_
  refine kS (v:=(.int .i64 (fgI w))) (j:=2) (k':=k) (enc:=encY) (off:=io22) rfl rfl rfl rfl α'3 ha22 encY_len hv Tk (by first | rfl | exact (Ad _).symm | omega) (by rfl) ?_
  refine qB rfl rfl rfl rfl rfl (b_geq _ _ _ _) ?_
  refine qR (qW [0,3,4,25] (e':=[(0,_),(3,_),(4,_),(25,_)]) rfl ?_)
  refine qQ ?_
  refine qD rfl (fun hfg=>?_) (fun hfg=>?_)
  ·
   have hgt:w.2.2.2=true:=(fg_pos hnn).1 hfg
   refine qC (.q 0 (.q 1 (.q 2 (.q 3 (.q 4 (.q 5 (.q 6 (.q 7 (.q 8 (.q 9 (.q 10 ((.l 11 [] ((.l 12 [] (.q 13 (.done))))))))))))))))) Kr ?_
   refine qK rfl rfl rfl rfl (qK rfl rfl rfl rfl (qK rfl rfl rfl rfl (qX rfl rfl rfl rfl (qG (k:=1) rfl rfl rfl rfl υ'101 rfl ζ'99 rfl ?_))))
   refine qP (j:=1) rfl rfl rfl rfl α'99 Tk Az (by rfl) ?_
   refine qK rfl rfl rfl rfl (kF (sz:=2) (k:=k) (enc:=encY) (xs:=VX) rfl rfl rfl rfl rfl υ'99 ζ'105 hv (by first | rfl | omega) Om Tk ?_)
   intro ib33 io33 ha33 hl33 hc33
   refine qG (k:=2) rfl rfl rfl rfl υ'105 rfl ζ'3 rfl ?_
   refine kS (v:=(.int .i64 (fgI w))) (j:=2) (k':=k) (enc:=encY) (off:=io33) rfl rfl rfl rfl α'3 ha33 encY_len hv Tk (by first | rfl | exact (Ad _).symm | omega) (by rfl) ?_
   refine cC rfl rfl rfl rfl (vs:=[_,_]) (kV υ'63 ω'63 (ps:=[(0,1),(1,1)]) ⟨rfl,ζ'3,rfl,ζ'3,trivial⟩ rfl) ?_
   refine cL rfl rfl rfl rfl (sQ (us:=[_,_]) υ'60 ζ'63 rfl ω'63 rfl rfl rfl) ?_
   intro b37
   refine qV (sG (sz:=2) (enc:=enc2) (xs:=(flF (x.vs.take k))) rfl rfl rfl rfl rfl υ'60 Tryz.typeInfo63 rfl rfl rfl (by decide) Tk Tk (by first | rfl | omega | (simp;done) | (simp;omega)) (ys:=[(((k:Nat):Int),fgI w)]) (sX sS) (by rfl) (by first | rfl | omega) (enc2_len) (enc2_one) Om (by show _*16≤_;omega) ?_)
   intro ao38 cp38
   refine qV (qS rfl rfl rfl rfl (qR (qW [0,3,4] (e':=[(0,_),(3,_),(4,_)]) rfl ?_)))
   refine kX (qQ (qC (.q 0 (.q 1 (.q 2 (.done)))) Kr ?_))
   refine qK rfl rfl rfl rfl (qB rfl rfl rfl rfl rfl (cV _ (by exact kP Om Om)) ?_)
   refine qS rfl rfl rfl rfl (qR (qQ ?_))
   have hnx:=flF_next hw
   rw [if_pos hgt,show w.2.2.1=fgI w from by rw [fgI,if_pos hgt]] at hnx
   rw [← hnx]
   refine s_rvarF rb wb (fgI w) w Ts rfl rfl rfl hnn ?_
   refine cY (res:=rvarA) (V:=VX) (Y:=x.vs) (S:=[]) k Ts (by simp) hv hw ?_
   refine kB 3 rfl (v':=.slice ao38 (flF (x.vs.take (k+1))).length cp38) (by rw [hnx,List.length_append];rfl) ?_
   refine kB 3 rfl (v':=.slice ao38 ((flF (x.vs.take (k+1))).length) cp38) (by first | rfl | (congr 1;done) | (congr 1 <;> first | rfl | omega | (simp;done) | (simp;omega))) ?_
   refine kJ (x:=(k,ga,gc)) ((k+1,ao38,cp38)) ?_ ?_ ?_ ?_
   · try dsimp only
     omega
   · show x.vs.length - (k+1) < x.vs.length - k;omega
   · exact ⟨rfl,rfl,rfl,trivial⟩
   · (try simp only [Ca,Na]);exact Tf
  have hgt:¬ w.2.2.2=true:=fun q=>hfg ((fg_pos hnn).2 q)
  refine qF (kX (qQ (qC (.q 0 (.q 1 (.q 2 (.done)))) Kr ?_)))
  refine qK rfl rfl rfl rfl (qB rfl rfl rfl rfl rfl (cV _ (by exact kP Om Om)) ?_)
  refine qS rfl rfl rfl rfl (qR (qQ ?_))
  have hnx:=flF_next hw
  rw [if_neg hgt,List.append_nil] at hnx
  rw [← hnx]
  refine s_rvarF rb wb (fgI w) w Ts rfl rfl rfl hnn ?_
  refine cY (res:=rvarA) (V:=VX) (Y:=x.vs) (S:=[]) k Ts (by simp) hv hw ?_
  refine kB 3 rfl (v':=.slice ga ((flF (x.vs.take (k+1))).length) gc) (by first | rfl | (congr 1;done) | (congr 1 <;> first | rfl | omega | (simp;done) | (simp;omega))) ?_
  refine kJ (x:=(k,ga,gc)) ((k+1,ga,gc)) ?_ ?_ ?_ ?_
  · try dsimp only
    omega
  · show x.vs.length - (k+1) < x.vs.length - k;omega
  · exact ⟨rfl,rfl,rfl,trivial⟩
  · (try simp only [Ca,Na]);exact Tf
 refine cW (qY (qY (kK (qQ (qL (qC (.q 0 (.q 1 (.done))) Kr ?_))))))
 refine qK rfl rfl rfl rfl (qS rfl rfl rfl rfl (qR (qW [2] (e':=[(2,_)]) rfl ?_)))
 refine qQ (qJ ?_)
 obtain rfl:k=x.vs.length:=by omega
 rw [List.take_length]
 refine rd_fold (b:=b) x (pa:=pa) (pc:=pc) (vb:=vb) (Xa:=Xa) (Xc:=Xc) (VX:=VX) Ts (by first | rfl | simp) (by rfl) (by first | exact hVX | simpa using hVX) ?_
 refine kD rfl rfl ((ga,gc)) (by first | rfl | (first | rfl | (congr 1;done) | (congr 1 <;> first | rfl | omega | (simp;done) | (simp;omega)))) (by trivial) ?_
 exact Tf
theorem rnew_spec (th va vo lk:Int) (pl:List Int) (ao:Option Addr) (n c:Nat) (A:HProp) (hr:RdS A ao (pl.flatMap encZ)) (hn:pl.length=n) (hb:n≤4000000) (hok:OkS th va vo lk pl):Spec Tryz.prog 17 [.agg #[.int .i64 th,.int .i64 va,.int .i64 vo,.int .i64 lk,.slice ao n c]] [A] (fun (r:Nat × Option Addr × Nat)=>.tuple #[.pointer (some ⟨r.1,0,none⟩),.int .i64 0]) (fun r=>True) (fun r=>[A,own 1 encZ r.2.1 r.2.2 pl,rdR r.2.1 r.2.2 r.1 (dNew th va vo lk pl)]):=by
 refine kQ (n:=38) Tryz.func17 rfl rfl rfl ?_
 intro Γ w0
 simp only [argE,Ca,Na,Zd,Nat.reduceAdd]
 refine qL (qC ((.l 0 [] (.q 1 (.q 2 (.done))))) Kr ?_)
 refine sP rfl rfl rfl rfl (us:=[_,_,_,_,_]) rfl ?_
 intro b1
 refine qV (qS rfl rfl rfl rfl (qS rfl rfl rfl rfl (qR (qQ (qL (qC (.q 0 ((.l 1 [] (.q 2 (.q 3 (.q 4 (.q 5 (.q 6 (.done))))))))) Kr ?_))))))
 refine kG rfl rfl rfl rfl α'24 ζ'24 Tk 0 (us:=[_,_,_,_,_]) Az rfl rfl ?_
 have sp_1:=begin_spec th va vo lk pl ao n c A hr hn hb hok
 refine qM rfl rfl rfl rfl rfl rfl Tryz.call33 (sp_1) Ts ?_
 rintro ⟨vb,pa,pc⟩ -
 try simp only [Ca,Na]
 refine qV (qK rfl rfl rfl rfl (kY rfl rfl rfl rfl rfl (kY rfl rfl rfl rfl rfl (qS rfl rfl rfl rfl (qS rfl rfl rfl rfl (qR (qW [1,4,5] (e':=[(1,_),(4,_),(5,_)]) rfl ?_)))))))
 refine qQ (qL (qL (qC (.q 0 (.q 1 (.done))) Kr ?_)))
 refine qK rfl rfl rfl rfl (qB rfl rfl rfl rfl rfl (b_neq _ _ _ _) ?_)
 refine kB 14 rfl (v':=.bool false) (by first | rfl | simp) ?_
 refine qR (qQ (kZ rfl ?_))
 refine qF (qQ (qL (qC (.q 0 (.q 1 ((.l 2 [] (.q 3 (.done)))))) Kr ?_)))
 refine qK rfl rfl rfl rfl (cC rfl rfl rfl rfl (vs:=[_,_,_]) (kV υ'101 Tryz.zeroValue101 (ps:=[(0,1),(1,1),(2,1)]) ⟨rfl,ζ'96,rfl,ζ'99,rfl,ζ'3,trivial⟩ rfl) ?_)
 refine sP rfl rfl rfl rfl (us:=[_,_,_]) rfl ?_
 intro b18
 refine qV (qS rfl rfl rfl rfl (qR (qW [1,6] (e':=[(1,_),(6,_)]) rfl ?_)))
 refine qQ (qL (qL ?_))
 obtain ⟨nv,hnv⟩:∃ q:Nat,va=(q:Int):=⟨va.toNat,by have:=hok.va;omega⟩
 have hvb:=hok.va
 refine s_restL_nil (res:=rvarA) ?_
 refine cQ (fun _ h=>sR (sz:=3) (enc:=encY) h) ?_
 refine qC (.q 0 (.done)) Kr ?_
 refine qS rfl rfl rfl rfl (qR (qQ (kC ?_)))
 refine cH (α:=Nat × List PV × Option Addr × Nat) (fun (x_:Nat × List PV × Option Addr × Nat)=>match x_ with | (k,GV,ga,gc)=>k≤nv∧(GV.length=k)) (fun (x_:Nat × List PV × Option Addr × Nat)=>match x_ with | (k,GV,ga,gc)=>[(7,.int .i64 ((k:Nat):Int))]) (fun (x_:Nat × List PV × Option Addr × Nat)=>match x_ with | (k,GV,ga,gc)=>[restL rvarA GV (List.replicate k v0) [],cells b18 0 [.pointer (some ⟨vb,0,none⟩),.slice ga k gc,.int .i64 0],own 3 encY ga gc GV]) (fun (x_:Nat × List PV × Option Addr × Nat)=>match x_ with | (k,GV,ga,gc)=>nv - k) [1,6] (er:=[(1,_),(6,_)]) rfl (0,([]:List PV),none,0) ?_ (by exact ⟨rfl,trivial⟩) (by (try dsimp only);(try simp only [Ad,Zd]);(repeat ((with_reducible apply Z2);focus (first | (with_reducible (repeat (first | exact Z0 | apply Z1));done) | (repeat (first | exact Z0 | apply Z1)))));exact Z3) ?_
 · exact ⟨Nat.zero_le _,rfl⟩
 rintro ⟨k,GV,ga,gc⟩ ⟨hle_k,hGV⟩
 try simp only [Ca,Na]
 refine qL (qL (qC (.q 0 (.q 1 (.q 2 (.q 3 (.done))))) Kr ?_))
 refine qK rfl rfl rfl rfl (qG (k:=1) rfl rfl rfl rfl υ'24 rfl ζ'3 rfl ?_)
 refine qP (j:=1) rfl rfl rfl rfl α'3 Tk Az (by rfl) ?_
 refine kB 21 rfl (v':=.int .i64 ((nv:Nat):Int)) (by rw [hnv]) ?_
 refine qB rfl rfl rfl rfl rfl (cB _ _ _ _) ?_
 refine qR (qQ ?_)
 refine qD rfl (fun hlt=>?_) (fun hlt=>?_)
 ·
  refine qF (qQ (qL (kC (kL rfl (.q 0 (.q 1 (.q 2 (.q 3 (.q 4 ((.l 5 [4] ((.l 6 [4] (.q 7 ((.l 8 [4] ((.l 9 [] (.q 10 (.q 11 ((.l 12 [] (.done))))))))))))))))))) Kr ?_))))
  refine qK rfl rfl rfl rfl (qK rfl rfl rfl rfl (qX rfl rfl rfl rfl (qG (k:=1) rfl rfl rfl rfl υ'101 rfl ζ'99 rfl ?_)))
  refine qP (j:=1) rfl rfl rfl rfl α'99 Tk Az (by rfl) ?_
  have sp_2:=Rv.new_spec
  refine qM rfl rfl rfl rfl rfl rfl Tryz.call34 (sp_2) Ts ?_
  rintro rb -
  try simp only [Ca,Na]
  refine qH (q:=1) rfl rfl rfl α'99 Tk Az (by rfl) ?_
  refine qV ?_
  have sp_3:=Rv.new_spec
  refine qM rfl rfl rfl rfl rfl rfl Tryz.call34 (sp_3) Ts ?_
  rintro wb -
  try simp only [Ca,Na]
  refine qH (q:=1) rfl rfl rfl α'99 Tk Az (by rfl) ?_
  refine qV (cC rfl rfl rfl rfl (vs:=[_,_,_]) (kV υ'105 ω'105 (ps:=[(0,1),(1,1),(2,1)]) ⟨rfl,ζ'102,rfl,ζ'102,rfl,ζ'3,trivial⟩ rfl) ?_)
  refine cL rfl rfl rfl rfl (sQ (us:=[_,_,_]) υ'99 ζ'105 rfl ω'105 rfl rfl rfl) ?_
  intro b33
  refine qH (q:=1) rfl rfl rfl α'99 Tk Az (by rfl) ?_
  refine qV (sG (sz:=3) (enc:=encY) (xs:=GV) rfl rfl rfl rfl rfl υ'99 Tryz.typeInfo105 rfl rfl rfl (by decide) Tk Tk (by first | rfl | omega | (simp;done) | (simp;omega)) (ys:=[((some ⟨rb,0,none⟩,some ⟨wb,0,none⟩,-1):PV)]) (sX sS) (by rfl) (by first | rfl | omega) (encY_len) (encY_one) Om (by show _*24≤_;omega) ?_)
  intro ao34 cp34
  refine kB 34 rfl (v':=.slice ao34 (k+1) cp34) (by first | rfl | (congr 1;done) | (congr 1 <;> first | rfl | omega | (simp;done) | (simp;omega))) ?_
  refine qV (qX rfl rfl rfl rfl (qG (k:=1) rfl rfl rfl rfl υ'101 rfl ζ'99 rfl ?_))
  refine kH (j:=1) rfl rfl rfl rfl ζ'99 (us:=[_]) rfl rfl rfl Tk Az (by first | decide | (simp;done) | omega) ?_
  simp only [setL,List.set]
  refine qV (qR (qW [1,6,7] (e':=[(1,_),(6,_),(7,_)]) rfl ?_))
  refine kX (qQ (qC (.q 0 (.q 1 (.q 2 (.done)))) Kr ?_))
  refine qK rfl rfl rfl rfl (qB rfl rfl rfl rfl rfl (cV _ (by exact kP Om Om)) ?_)
  refine qS rfl rfl rfl rfl (qR (qQ (s_rvarF rb wb (-1) v0 Ts rfl rfl rfl (fun q=>by cases q) ?_)))
  refine s_restL_push (res:=rvarA) (V:=GV) (Y:=List.replicate k v0) ((some ⟨rb,0,none⟩,some ⟨wb,0,none⟩,-1):PV) v0 Ts (by simp [hGV]) ?_
  rw [← List.replicate_succ']
  refine kJ (x:=(k,GV,ga,gc)) ((k+1,GV++[((some ⟨rb,0,none⟩,some ⟨wb,0,none⟩,-1):PV)],ao34,cp34)) ?_ ?_ ?_ ?_
  · try dsimp only
    exact ⟨by omega,by simp [hGV]⟩
  · show nv - (k+1) < nv - k;omega
  · exact ⟨rfl,rfl,rfl,trivial⟩
  · (try simp only [Ca,Na]);exact Tf
 refine cW (qY (qY (kK (qQ (qL (qC (.q 0 (.q 1 (.q 2 (.done)))) Kr ?_))))))
 refine qK rfl rfl rfl rfl (qS rfl rfl rfl rfl (qS rfl rfl rfl rfl (qR (qW [2,3] (e':=[(2,_),(3,_)]) rfl ?_))))
 refine qQ (qJ ?_)
 obtain rfl:k=nv:=by omega
 refine rd_fold (b:=b18) (dNew th va vo lk pl) (pa:=pa) (pc:=pc) (vb:=vb) (Xa:=ga) (Xc:=gc) (VX:=GV) Ts hGV.symm (by rw [dNew,hnv,Int.toNat_natCast]) (by rw [hGV,List.length_replicate]) ?_
 refine ret2 rfl rfl rfl ((b18,pa,pc)) (by first | rfl | (first | rfl | (congr 1;done) | (congr 1 <;> first | rfl | omega | (simp;done) | (simp;omega)))) (by trivial) ?_
 exact Tf
theorem rnewbad_spec (th va vo lk:Int) (pl:List Int) (ao:Option Addr) (n c:Nat) (A:HProp) (hr:RdS A ao (pl.flatMap encZ)) (hn:pl.length=n) (hb:n≤4000000) (hok:¬ OkS th va vo lk pl):Spec Tryz.prog 17 [.agg #[.int .i64 th,.int .i64 va,.int .i64 vo,.int .i64 lk,.slice ao n c]] [A] (fun (_:Unit)=>.tuple #[.pointer none,.int .i64 5]) (fun _=>True) (fun _=>[A]):=by
 refine kQ (n:=38) Tryz.func17 rfl rfl rfl ?_
 intro Γ w0
 simp only [argE,Ca,Na,Zd,Nat.reduceAdd]
 refine qL (qC ((.l 0 [] (.q 1 (.q 2 (.done))))) Kr ?_)
 refine sP rfl rfl rfl rfl (us:=[_,_,_,_,_]) rfl ?_
 intro b1
 refine qV (qS rfl rfl rfl rfl (qS rfl rfl rfl rfl (qR (qQ (qL (qC (.q 0 ((.l 1 [] (.q 2 (.q 3 (.q 4 (.q 5 (.q 6 (.done))))))))) Kr ?_))))))
 refine kG rfl rfl rfl rfl α'24 ζ'24 Tk 0 (us:=[_,_,_,_,_]) Az rfl rfl ?_
 have sp_1:=beginbad_spec th va vo lk pl ao n c A hr hn hb hok
 refine qM rfl rfl rfl rfl rfl rfl Tryz.call33 (sp_1) Ts ?_
 rintro ⟨⟩ -
 try simp only [Ca,Na]
 refine qV (qK rfl rfl rfl rfl (kY rfl rfl rfl rfl rfl (kY rfl rfl rfl rfl rfl (qS rfl rfl rfl rfl (qS rfl rfl rfl rfl (qR (qW [1,4,5] (e':=[(1,_),(4,_),(5,_)]) rfl ?_)))))))
 refine qQ (qL (qL (qC (.q 0 (.q 1 (.done))) Kr ?_)))
 refine qK rfl rfl rfl rfl (qB rfl rfl rfl rfl rfl (b_neq _ _ _ _) ?_)
 refine kB 14 rfl (v':=.bool true) (by first | rfl | simp) ?_
 refine qR (qQ (cK rfl ?_))
 refine qL (qC (.q 0 (.q 1 (.q 2 (.done)))) Kr ?_)
 refine qK rfl rfl rfl rfl (qS rfl rfl rfl rfl (qS rfl rfl rfl rfl (qR (qW [2,3] (e':=[(2,_),(3,_)]) rfl ?_))))
 refine qQ (qJ (qN (ret2 rfl rfl rfl (()) (by first | rfl | (first | rfl | (congr 1;done) | (congr 1 <;> first | rfl | omega | (simp;done) | (simp;omega)))) (by trivial) ?_)))
 exact Tf
theorem rcopy_spec (pa:Option Addr) (pc b:Nat) (x:DS) (hx:DInv x) (hn:x.v.ck.n≤4000000000000):Spec Tryz.prog 21 [.pointer (some ⟨b,0,none⟩)] [rdR pa pc b x] (fun (r:Nat)=>.pointer (some ⟨r,0,none⟩)) (fun r=>True) (fun r=>[rdR pa pc b x,rdR pa pc r x]):=by
 refine kQ (n:=64) Tryz.func21 rfl rfl rfl ?_
 intro Γ w0
 simp only [argE,Ca,Na,Zd,Nat.reduceAdd]
 refine qL (qC (.q 0 (.done)) Kr ?_)
 refine qS rfl rfl rfl rfl (qR (qQ (qL (qL ?_))))
 have hva:=hx.v.ck.sh.va
 have hvl:=hx.len
 refine rd_open (pa:=pa) (pc:=pc) (b:=b) (x:=x) Tk fun vb Xa Xc VX hVX=>?_
 refine qC (.q 0 (.q 1 (.done))) Kr ?_
 refine qK rfl rfl rfl rfl (cG rfl rfl rfl rfl υ'30 ?_)
 refine kB 6 rfl (v':=.bool false) rfl ?_
 refine qR (qQ (kZ rfl ?_))
 refine qF (qQ (qL (kL rfl (.q 0 (.q 1 (.q 2 (.q 3 (.q 5 (.q 6 (.q 7 (.q 8 ((.l 4 [8] (.q 9 ((.l 10 [] (.q 11 (.done))))))))))))))) Kr ?_)))
 refine qK rfl rfl rfl rfl (qX rfl rfl rfl rfl (qG (k:=0) rfl rfl rfl rfl υ'101 rfl ζ'96 rfl ?_))
 refine qP (j:=0) rfl rfl rfl rfl α'96 Tk Az (by rfl) ?_
 refine qK rfl rfl rfl rfl (qX rfl rfl rfl rfl (qG (k:=2) rfl rfl rfl rfl υ'101 rfl ζ'3 rfl ?_))
 refine qP (j:=2) rfl rfl rfl rfl α'3 Tk Az (by rfl) ?_
 have sp_1:=vcopy_spec pa pc vb x.v hx.v Om
 refine qM rfl rfl rfl rfl rfl rfl Tryz.call43 (sp_1) Ts ?_
 rintro vq -
 try simp only [Ca,Na]
 refine qH (q:=2) rfl rfl rfl α'3 Tk Az (by rfl) ?_
 refine qV (cC rfl rfl rfl rfl (vs:=[_,_,_]) (kV υ'101 Tryz.zeroValue101 (ps:=[(0,1),(1,1),(2,1)]) ⟨rfl,ζ'96,rfl,ζ'99,rfl,ζ'3,trivial⟩ rfl) ?_)
 refine sP rfl rfl rfl rfl (us:=[_,_,_]) rfl ?_
 intro b17
 refine qV (qS rfl rfl rfl rfl (qR (qW [0,3] (e':=[(0,_),(3,_)]) rfl ?_)))
 refine qQ (qL (qL (qC (.q 0 (.done)) Kr ?_)))
 refine qS rfl rfl rfl rfl (qR (qQ (kC (s_restL_nil (res:=rvarA) ?_))))
 refine cQ (fun _ h=>sR (sz:=3) (enc:=encY) h) ?_
 refine cH (α:=Nat × List PV × Option Addr × Nat) (fun (x_:Nat × List PV × Option Addr × Nat)=>match x_ with | (k,GV,ga,gc)=>k≤VX.length∧(GV.length=k)) (fun (x_:Nat × List PV × Option Addr × Nat)=>match x_ with | (k,GV,ga,gc)=>[(4,.int .i64 ((k:Nat):Int))]) (fun (x_:Nat × List PV × Option Addr × Nat)=>match x_ with | (k,GV,ga,gc)=>[restL rvarA VX x.vs [],restL rvarA GV (x.vs.take k) [],cells b17 0 [.pointer (some ⟨vq,0,none⟩),.slice ga k gc,.int .i64 x.cost],own 3 encY ga gc GV]) (fun (x_:Nat × List PV × Option Addr × Nat)=>match x_ with | (k,GV,ga,gc)=>VX.length - k) [0,3] (er:=[(0,_),(3,_)]) rfl (0,([]:List PV),none,0) ?_ (by exact ⟨rfl,trivial⟩) (by (try dsimp only);(try simp only [Ad,Zd]);(repeat ((with_reducible apply Z2);focus (first | (with_reducible (repeat (first | exact Z0 | apply Z1));done) | (repeat (first | exact Z0 | apply Z1)))));exact Z3) ?_
 · exact ⟨Nat.zero_le _,rfl⟩
 rintro ⟨k,GV,ga,gc⟩ ⟨hle_k,hGV⟩
 try simp only [Ca,Na]
 refine qL (qL (qC (.q 0 (.q 1 (.q 2 (.q 3 (.q 4 (.q 5 (.q 6 (.done)))))))) Kr ?_))
 refine qK rfl rfl rfl rfl (qK rfl rfl rfl rfl (qX rfl rfl rfl rfl (qG (k:=1) rfl rfl rfl rfl υ'101 rfl ζ'99 rfl ?_)))
 refine qP (j:=1) rfl rfl rfl rfl α'99 Tk Az (by rfl) ?_
 refine cJ rfl rfl rfl rfl υ'99 ?_
 refine qB rfl rfl rfl rfl rfl (cB _ _ _ _) ?_
 refine qR (qW [0,3,4,24] (e':=[(0,_),(3,_),(4,_),(24,_)]) rfl ?_)
 refine qQ ?_
 refine qD rfl (fun hlt=>?_) (fun hlt=>?_)
 ·
  refine qF (qQ (qL (kC ?_)))
  obtain ⟨w,hw⟩:=cR (l:=x.vs) (i:=k) Om
  refine cZ (res:=rvarA) (V:=VX) (Y:=x.vs) (S:=[]) k Tk (by simp) hw fun v hv=>?_
  refine s_rvar Tk fun rb wb hvq hnn=>?_
  subst hvq
  refine kL rfl (.q 0 (.q 1 (.q 2 (.q 3 (.q 4 (.q 5 (.q 6 (.q 7 (.q 8 (.q 9 (.q 10 (.q 11 (.q 12 (.q 14 (.q 15 (.q 16 (.q 17 (.q 18 (.q 19 (.q 20 (.q 21 (.q 23 (.q 24 (.q 25 (.q 26 (.q 27 (.q 28 (.q 29 (.q 30 ((.l 13 [4,17,21,26,30] ((.l 22 [4,26,30] (.q 31 ((.l 32 [4] ((.l 33 [] (.q 34 (.q 35 ((.l 36 [] (.done))))))))))))))))))))))))))))))))))))))))))) Kr ?_
  refine qK rfl rfl rfl rfl (qK rfl rfl rfl rfl (qX rfl rfl rfl rfl (qG (k:=1) rfl rfl rfl rfl υ'101 rfl ζ'99 rfl ?_)))
  refine qP (j:=1) rfl rfl rfl rfl α'99 Tk Az (by rfl) ?_
  refine qK rfl rfl rfl rfl (qX rfl rfl rfl rfl (qG (k:=1) rfl rfl rfl rfl υ'101 rfl ζ'99 rfl ?_))
  refine qP (j:=1) rfl rfl rfl rfl α'99 Tk Az (by rfl) ?_
  refine qK rfl rfl rfl rfl (kF (sz:=2) (k:=k) (enc:=encY) (xs:=VX) rfl rfl rfl rfl rfl υ'99 ζ'105 hv (by first | rfl | omega) Om Tk ?_)
  intro ib37 io37 ha37 hl37 hc37
  refine qG (k:=0) rfl rfl rfl rfl υ'105 rfl ζ'102 rfl ?_
  refine kS (v:=(.pointer (some ⟨rb,0,none⟩))) (j:=0) (k':=k) (enc:=encY) (off:=io37) rfl rfl rfl rfl α'102 ha37 encY_len hv Tk (by first | rfl | exact (Ad _).symm | omega) (by rfl) ?_
  refine qK rfl rfl rfl rfl (qX rfl rfl rfl rfl (qG (k:=1) rfl rfl rfl rfl υ'101 rfl ζ'99 rfl ?_))
  refine qP (j:=1) rfl rfl rfl rfl α'99 Tk Az (by rfl) ?_
  refine qK rfl rfl rfl rfl (kF (sz:=2) (k:=k) (enc:=encY) (xs:=VX) rfl rfl rfl rfl rfl υ'99 ζ'105 hv (by first | rfl | omega) Om Tk ?_)
  intro ib46 io46 ha46 hl46 hc46
  refine qG (k:=1) rfl rfl rfl rfl υ'105 rfl ζ'102 rfl ?_
  refine kS (v:=(.pointer (some ⟨wb,0,none⟩))) (j:=1) (k':=k) (enc:=encY) (off:=io46) rfl rfl rfl rfl α'102 ha46 encY_len hv Tk (by first | rfl | exact (Ad _).symm | omega) (by rfl) ?_
  refine qK rfl rfl rfl rfl (qX rfl rfl rfl rfl (qG (k:=1) rfl rfl rfl rfl υ'101 rfl ζ'99 rfl ?_))
  refine qP (j:=1) rfl rfl rfl rfl α'99 Tk Az (by rfl) ?_
  refine qK rfl rfl rfl rfl (kF (sz:=2) (k:=k) (enc:=encY) (xs:=VX) rfl rfl rfl rfl rfl υ'99 ζ'105 hv (by first | rfl | omega) Om Tk ?_)
  intro ib55 io55 ha55 hl55 hc55
  refine qG (k:=2) rfl rfl rfl rfl υ'105 rfl ζ'3 rfl ?_
  refine kS (v:=(.int .i64 (fgI w))) (j:=2) (k':=k) (enc:=encY) (off:=io55) rfl rfl rfl rfl α'3 ha55 encY_len hv Tk (by first | rfl | exact (Ad _).symm | omega) (by rfl) ?_
  have sp_2:=Rv.copy_spec rb w.1
  refine qM rfl rfl rfl rfl rfl rfl κ'44 (sp_2) Ts ?_
  rintro qb -
  try simp only [Ca,Na]
  refine qH (q:=1) rfl rfl rfl α'99 Tk Az (by rfl) ?_
  refine qH (q:=1) rfl rfl rfl α'99 Tk Az (by rfl) ?_
  refine sJ (v:=(.pointer (some ⟨wb,0,none⟩))) (j:=1) (k':=k) (enc:=encY) (off:=io46) rfl rfl rfl α'102 ha46 encY_len hv Tk (by first | rfl | exact (Ad _).symm | omega) (by rfl) ?_
  refine qH (q:=1) rfl rfl rfl α'99 Tk Az (by rfl) ?_
  refine sJ (v:=(.int .i64 (fgI w))) (j:=2) (k':=k) (enc:=encY) (off:=io55) rfl rfl rfl α'3 ha55 encY_len hv Tk (by first | rfl | exact (Ad _).symm | omega) (by rfl) ?_
  refine qV ?_
  have sp_3:=Rv.copy_spec wb w.2.1
  refine qM rfl rfl rfl rfl rfl rfl κ'44 (sp_3) Ts ?_
  rintro qc -
  try simp only [Ca,Na]
  refine qH (q:=1) rfl rfl rfl α'99 Tk Az (by rfl) ?_
  refine qH (q:=1) rfl rfl rfl α'99 Tk Az (by rfl) ?_
  refine sJ (v:=(.int .i64 (fgI w))) (j:=2) (k':=k) (enc:=encY) (off:=io55) rfl rfl rfl α'3 ha55 encY_len hv Tk (by first | rfl | exact (Ad _).symm | omega) (by rfl) ?_
  refine qV (cC rfl rfl rfl rfl (vs:=[_,_,_]) (kV υ'105 ω'105 (ps:=[(0,1),(1,1),(2,1)]) ⟨rfl,ζ'102,rfl,ζ'102,rfl,ζ'3,trivial⟩ rfl) ?_)
  refine cL rfl rfl rfl rfl (sQ (us:=[_,_,_]) υ'99 ζ'105 rfl ω'105 rfl rfl rfl) ?_
  intro b59
  refine qH (q:=1) rfl rfl rfl α'99 Tk Az (by rfl) ?_
  refine qV (sG (sz:=3) (enc:=encY) (xs:=GV) rfl rfl rfl rfl rfl υ'99 Tryz.typeInfo105 rfl rfl rfl (by decide) Tk Tk (by first | rfl | omega | (simp;done) | (simp;omega)) (ys:=[((some ⟨qb,0,none⟩,some ⟨qc,0,none⟩,fgI w):PV)]) (sX sS) (by rfl) (by first | rfl | omega) (encY_len) (encY_one) Om (by show _*24≤_;omega) ?_)
  intro ao60 cp60
  refine kB 60 rfl (v':=.slice ao60 (k+1) cp60) (by first | rfl | (congr 1;done) | (congr 1 <;> first | rfl | omega | (simp;done) | (simp;omega))) ?_
  refine qV (qX rfl rfl rfl rfl (qG (k:=1) rfl rfl rfl rfl υ'101 rfl ζ'99 rfl ?_))
  refine kH (j:=1) rfl rfl rfl rfl ζ'99 (us:=[_]) rfl rfl rfl Tk Az (by first | decide | (simp;done) | omega) ?_
  simp only [setL,List.set]
  refine qV (qR (qW [0,3,4] (e':=[(0,_),(3,_),(4,_)]) rfl ?_))
  refine kX (qQ (qC (.q 0 (.q 1 (.q 2 (.done)))) Kr ?_))
  refine qK rfl rfl rfl rfl (qB rfl rfl rfl rfl rfl (cV _ (by exact kP Om Om)) ?_)
  refine qS rfl rfl rfl rfl (qR (qQ (s_rvarF rb wb (fgI w) w Ts rfl rfl rfl hnn ?_)))
  refine cY (res:=rvarA) (V:=VX) (Y:=x.vs) (S:=[]) k Ts (by simp) hv hw ?_
  refine s_rvarF qb qc (fgI w) w Ts rfl rfl rfl hnn ?_
  refine s_restL_push (res:=rvarA) (V:=GV) (Y:=x.vs.take k) ((some ⟨qb,0,none⟩,some ⟨qc,0,none⟩,fgI w):PV) w Ts (by rw [List.length_take];omega) ?_
  rw [← take_snoc hw]
  refine kJ (x:=(k,GV,ga,gc)) ((k+1,GV++[((some ⟨qb,0,none⟩,some ⟨qc,0,none⟩,fgI w):PV)],ao60,cp60)) ?_ ?_ ?_ ?_
  · try dsimp only
    exact ⟨by omega,by simp [hGV]⟩
  · show VX.length - (k+1) < VX.length - k;omega
  · exact ⟨rfl,rfl,rfl,trivial⟩
  · (try simp only [Ca,Na]);exact Tf
 refine cW (qY (qY (kK (qQ (qL (qC (.q 0 (.q 1 (.done))) Kr ?_))))))
 refine qK rfl rfl rfl rfl (qS rfl rfl rfl rfl (qR (qW [2] (e':=[(2,_)]) rfl ?_)))
 refine qQ (qJ ?_)
 obtain rfl:k=VX.length:=by omega
 rw [show x.vs.take VX.length=x.vs from List.take_of_length_le Om]
 refine rd_fold (b:=b) x (pa:=pa) (pc:=pc) (vb:=vb) (Xa:=Xa) (Xc:=Xc) (VX:=VX) Ts (by first | rfl | simp) (by rfl) (by first | exact hVX | simpa using hVX) ?_
 refine rd_fold (b:=b17) x (pa:=pa) (pc:=pc) (vb:=vq) (Xa:=ga) (Xc:=gc) (VX:=GV) Ts hGV.symm rfl Om ?_
 refine kD rfl rfl (b17) (by first | rfl | (first | rfl | (congr 1;done) | (congr 1 <;> first | rfl | omega | (simp;done) | (simp;omega)))) (by trivial) ?_
 exact Tf
end Go.Ab.Rv
set_option linter.unusedVariables false
set_option linter.unusedSimpArgs false
set_option maxRecDepth 100000
namespace Go.Ab.Rv
open Go Go.Proofs Go.Ab Go.Ab.Fe Go.Ab.Vc Go.Ab.Dj
theorem revent_no (pa:Option Addr) (pc b:Nat) (x:DS) (hx:DInv x) (k t o:Int) (hv:¬ vcanF x.v k t o):Spec Tryz.prog 18 [.pointer (some ⟨b,0,none⟩),.agg #[.int .i64 k,.int .i64 t,.int .i64 o]] [rdR pa pc b x] (fun (_:Unit)=>.int .i64 6) (fun _=>True) (fun _=>[rdR pa pc b x]):=by
 refine kQ (n:=133) Tryz.func18 rfl rfl rfl ?_
 intro Γ w0
 simp only [argE,Ca,Na,Zd,Nat.reduceAdd]
 refine qL (qC ((.l 0 [] (.q 1 (.done)))) Kr ?_)
 refine sP rfl rfl rfl rfl (us:=[_,_,_]) rfl ?_
 intro b3
 refine qV (qS rfl rfl rfl rfl (qR (qQ (qL (qL ?_)))))
 have hcc:=hx.c0
 have hlen:=hx.len
 have hn0:=hx.v.ck.n0
 refine rd_open (pa:=pa) (pc:=pc) (b:=b) (x:=x) Tk fun vb Xa Xc VX hVX=>?_
 refine qC (.q 0 (.q 1 (.done))) Kr ?_
 refine qK rfl rfl rfl rfl (cG rfl rfl rfl rfl υ'30 ?_)
 refine kB 9 rfl (v':=.bool false) rfl ?_
 refine qR (qQ (kZ rfl ?_))
 refine qF (qQ (qL (qL (kL rfl (.q 0 (.q 1 (.q 2 (.q 3 (.q 4 ((.l 5 [] (.q 6 (.done))))))))) Kr ?_))))
 refine qK rfl rfl rfl rfl (qX rfl rfl rfl rfl (qG (k:=0) rfl rfl rfl rfl υ'101 rfl ζ'96 rfl ?_))
 refine qP (j:=0) rfl rfl rfl rfl α'96 Tk Az (by rfl) ?_
 refine kG rfl rfl rfl rfl α'47 ζ'47 Tk 0 (us:=[_,_,_]) Az rfl rfl ?_
 have sp_1:=vcan_spec pa pc vb x.v hx.v k t o
 refine qM rfl rfl rfl rfl rfl rfl Tryz.call35 (sp_1) Ts ?_
 rintro ⟨⟩ -
 try simp only [Ca,Na]
 refine qV (sY rfl rfl rfl rfl ?_)
 refine qR (qW [0,3,16] (e':=[(0,_),(3,_),(16,_)]) rfl ?_)
 refine qQ ?_
 refine c_cond_np rfl (fun hg=>?_) (fun hg=>by exfalso;exact hv hg)
 refine qL (qC (.q 0 (.done)) Kr ?_)
 refine qS rfl rfl rfl rfl (qR (qQ (qJ (qN (rd_fold (b:=b) x (pa:=pa) (pc:=pc) (vb:=vb) (Xa:=Xa) (Xc:=Xc) (VX:=VX) Ts (by first | rfl | simp) (by rfl) (by first | exact hVX | simpa using hVX) ?_)))))
 refine kD rfl rfl (()) (by first | rfl | (first | rfl | (congr 1;done) | (congr 1 <;> first | rfl | omega | (simp;done) | (simp;omega)))) (by trivial) ?_
 exact Tf
theorem revent_can (pa:Option Addr) (pc b:Nat) (x:DS) (hx:DInv x) (hn:x.v.ck.n≤4000000000000) (pl:List Int) (hpl:x.v.ck.pa=pl) (k:Int) (t o:Nat) (hv:vcanF x.v k ((t:Nat):Int) ((o:Nat):Int)):Spec Tryz.prog 18 [.pointer (some ⟨b,0,none⟩),.agg #[.int .i64 k,.int .i64 ((t:Nat):Int),.int .i64 ((o:Nat):Int)]] [rdR pa pc b x,own 1 encZ pa pc pl] (fun (_:Unit)=>.int .i64 (deE x k ((t:Nat):Int) ((o:Nat):Int))) (fun _=>True) (fun _=>[rdR pa pc b (deF x k ((t:Nat):Int) ((o:Nat):Int)),own 1 encZ pa pc pl]):=by
 refine kQ (n:=133) Tryz.func18 rfl rfl rfl ?_
 intro Γ w0
 simp only [argE,Ca,Na,Zd,Nat.reduceAdd]
 refine qL (qC ((.l 0 [] (.q 1 (.done)))) Kr ?_)
 refine sP rfl rfl rfl rfl (us:=[_,_,_]) rfl ?_
 intro b3
 refine qV (qS rfl rfl rfl rfl (qR (qQ (qL (qL ?_)))))
 have hcc:=hx.c0
 have hlen:=hx.len
 have hn0:=hx.v.ck.n0
 have hc:=hv.1
 obtain ⟨l,hth⟩:=th_some hx.v (can_th hc)
 obtain ⟨h0_,h1_⟩:=th_rng hx.v (can_th hc)
 have hlc:=hx.v.thc _ _ hth
 have hlg:=g_rng hlc.rng (by decide) t
 have htn:t < 65535:=by omega
 refine rd_open (pa:=pa) (pc:=pc) (b:=b) (x:=x) Tk fun vb Xa Xc VX hVX=>?_
 refine qC (.q 0 (.q 1 (.done))) Kr ?_
 refine qK rfl rfl rfl rfl (cG rfl rfl rfl rfl υ'30 ?_)
 refine kB 9 rfl (v':=.bool false) rfl ?_
 refine qR (qQ (kZ rfl ?_))
 refine qF (qQ (qL (qL (kL rfl (.q 0 (.q 1 (.q 2 (.q 3 (.q 4 ((.l 5 [] (.q 6 (.done))))))))) Kr ?_))))
 refine qK rfl rfl rfl rfl (qX rfl rfl rfl rfl (qG (k:=0) rfl rfl rfl rfl υ'101 rfl ζ'96 rfl ?_))
 refine qP (j:=0) rfl rfl rfl rfl α'96 Tk Az (by rfl) ?_
 refine kG rfl rfl rfl rfl α'47 ζ'47 Tk 0 (us:=[_,_,_]) Az rfl rfl ?_
 have sp_1:=vcan_spec pa pc vb x.v hx.v k ((t:Nat):Int) ((o:Nat):Int)
 refine qM rfl rfl rfl rfl rfl rfl Tryz.call35 (sp_1) Ts ?_
 rintro ⟨⟩ -
 try simp only [Ca,Na]
 refine qV (sY rfl rfl rfl rfl ?_)
 refine qR (qW [0,3,16] (e':=[(0,_),(3,_),(16,_)]) rfl ?_)
 refine qQ ?_
 refine c_cond_np rfl (fun hg=>by exfalso;exact hg hv) (fun hg=>?_)
 refine qF (qQ (qL (qL (qC (.q 0 (.q 1 (.q 2 (.q 3 (.q 4 (.q 5 (.q 6 (.q 7 (.done))))))))) Kr ?_))))
 refine qG (k:=0) rfl rfl rfl rfl υ'47 rfl ζ'45 rfl ?_
 refine qP (j:=0) rfl rfl rfl rfl α'45 Tk Az (by rfl) ?_
 refine qB rfl rfl rfl rfl rfl (cP _ _ _ _) ?_
 refine qK rfl rfl rfl rfl ?_
 refine cF 20 rfl (fun k1=>?_) (fun k1=>?_)
 ·
  refine qZ rfl rfl rfl rfl (qZ rfl rfl rfl rfl (qZ rfl rfl rfl rfl (kW rfl rfl rfl rfl rfl (qR (qW [0,3,24] (e':=[(0,_),(3,_),(24,_)]) rfl ?_)))))
  refine qQ (cK rfl ?_)
  refine qL ?_
  obtain ⟨p0,p1⟩:=acc_obj hc Om
  obtain ⟨w,hw⟩:=cR (l:=x.vs) (i:=o) Om
  refine cZ (res:=rvarA) (V:=VX) (Y:=x.vs) (S:=[]) o Tk (by simp) hw fun v hvx=>?_
  refine s_rvar Tk fun rb wb hvq hnn=>?_
  subst hvq
  refine kL rfl (.q 0 (.q 1 (.q 2 (.q 3 (.q 4 (.q 5 (.q 6 (.q 7 (.done))))))))) Kr ?_
  refine qK rfl rfl rfl rfl (qX rfl rfl rfl rfl (qG (k:=1) rfl rfl rfl rfl υ'101 rfl ζ'99 rfl ?_))
  refine qP (j:=1) rfl rfl rfl rfl α'99 Tk Az (by rfl) ?_
  refine qG (k:=2) rfl rfl rfl rfl υ'47 rfl ζ'3 rfl ?_
  refine qP (j:=2) rfl rfl rfl rfl α'3 Tk Az (by rfl) ?_
  refine kF (sz:=2) (k:=o) (enc:=encY) (xs:=VX) rfl rfl rfl rfl rfl υ'99 ζ'105 hvx (by first | rfl | omega) Om Tk ?_
  intro ib31 io31 ha31 hl31 hc31
  refine qS rfl rfl rfl rfl (qR (qW [0,3,5] (e':=[(0,_),(3,_),(5,_)]) rfl ?_))
  refine qQ (qL (rv_open (pa:=pa) (pc:=pc) (b:=vb) (x:=x.v) Tk fun cb Ta Tc La Lc Oa Oc Ra Rc VT VL VO VR YR hVT hVL hVO hVR hK=>?_))
  have hTl:=hx.v.ck.tl
  obtain ⟨-,hts_,-⟩:=stF_nz (x:=x.v.ck) (t:=((t:Nat):Int)) ((hx.v.th _).1 (by rw [hth];rfl))
  rw [Int.toNat_natCast] at hts_
  have htt:(tabF x.v.ck.th.toNat x.v.th)[t]?=some (some l):=by rw [tab_get Om,hth]
  refine cZ (res:=optR) (V:=VT) (Y:=tabF x.v.ck.th.toNat x.v.th) (S:=[]) t Tk (by simp) htt fun ta hta=>?_
  refine optR_some (a:=ta) (t:=l) Tk fun tb htb=>?_
  subst htb
  refine kL rfl (.q 0 (.q 1 (.q 2 (.q 3 (.q 4 (.q 5 (.q 6 (.q 7 (.q 8 (.q 9 (.q 10 (.q 11 (.done))))))))))))) Kr ?_
  refine qK rfl rfl rfl rfl (qX rfl rfl rfl rfl (qG (k:=0) rfl rfl rfl rfl υ'101 rfl ζ'96 rfl ?_))
  refine qP (j:=0) rfl rfl rfl rfl α'96 Tk Az (by rfl) ?_
  refine qX rfl rfl rfl rfl (qG (k:=1) rfl rfl rfl rfl υ'111 rfl ζ'108 rfl ?_)
  refine qP (j:=1) rfl rfl rfl rfl α'108 Tk Az (by rfl) ?_
  refine qG (k:=1) rfl rfl rfl rfl υ'47 rfl ζ'3 rfl ?_
  refine qP (j:=1) rfl rfl rfl rfl α'3 Tk Az (by rfl) ?_
  refine kF (sz:=0) (k:=t) (enc:=encA) (xs:=VT) rfl rfl rfl rfl rfl υ'108 ζ'102 hta (by first | rfl | omega) Om Tk ?_
  intro ib41 io41 ha41 hl41 hc41
  refine kS (v:=(.pointer (some ⟨tb,0,none⟩))) (j:=0) (k':=t) (enc:=encA) (off:=io41) rfl rfl rfl rfl α'102 ha41 encA_len hta Tk (by first | rfl | exact (Ad _).symm | omega) (by rfl) ?_
  refine qS rfl rfl rfl rfl (qR (qW [0,3,5,6] (e':=[(0,_),(3,_),(5,_),(6,_)]) rfl ?_))
  refine qQ (qL (qC (.q 0 (.q 1 (.q 2 (.q 3 (.q 4 ((.l 5 [] (.q 6 (.q 7 (.done)))))))))) Kr ?_))
  refine qK rfl rfl rfl rfl (qX rfl rfl rfl rfl (qG (k:=1) rfl rfl rfl rfl υ'105 rfl ζ'102 rfl ?_))
  refine kS (v:=(.pointer (some ⟨wb,0,none⟩))) (j:=1) (k':=o) (enc:=encY) (off:=io31) rfl rfl rfl rfl α'102 ha31 encY_len hvx Tk (by first | rfl | exact (Ad _).symm | omega) (by rfl) ?_
  refine qK rfl rfl rfl rfl ?_
  have sp_2:=Rv.leq_spec wb tb w.2.1 l
  refine qM rfl rfl rfl rfl rfl rfl Tryz.call36 (sp_2) Ts ?_
  rintro ⟨⟩ -
  try simp only [Ca,Na]
  refine qV (sY rfl rfl rfl rfl ?_)
  refine qS rfl rfl rfl rfl (qR (qW [0,3,5,6,7] (e':=[(0,_),(3,_),(5,_),(6,_),(7,_)]) rfl ?_))
  refine qQ (qL (qC (.q 0 (.q 1 (.q 2 (.q 3 (.q 4 (.q 5 (.q 6 ((.l 7 [] (.done)))))))))) Kr ?_))
  refine qK rfl rfl rfl rfl (qX rfl rfl rfl rfl (qG (k:=2) rfl rfl rfl rfl υ'101 rfl ζ'3 rfl ?_))
  refine qP (j:=2) rfl rfl rfl rfl α'3 Tk Az (by rfl) ?_
  refine qB rfl rfl rfl rfl rfl (cV _ (by exact kP Om Om)) ?_
  refine qX rfl rfl rfl rfl (qG (k:=2) rfl rfl rfl rfl υ'101 rfl ζ'3 rfl ?_)
  refine kH (j:=2) rfl rfl rfl rfl ζ'3 (us:=[_]) rfl rfl rfl Tk Az (by first | decide | (simp;done) | omega) ?_
  simp only [setL,List.set]
  refine qV (qR (qW [0,3,5,6,7] (e':=[(0,_),(3,_),(5,_),(6,_),(7,_)]) rfl ?_))
  refine qQ (qL (qL (qC (.q 0 (.q 1 (.q 2 (.done)))) Kr ?_)))
  refine qG (k:=0) rfl rfl rfl rfl υ'47 rfl ζ'45 rfl ?_
  refine qP (j:=0) rfl rfl rfl rfl α'45 Tk Az (by rfl) ?_
  refine qB rfl rfl rfl rfl rfl (cP _ _ _ _) ?_
  refine qR (qQ ?_)
  refine qD rfl (fun hg=>by exfalso;omega) (fun hg=>?_)
  refine qF (qQ (qL (qL (qC (.q 0 (.q 1 (.q 2 (.q 3 (.q 4 (.q 5 (.q 6 (.q 7 (.done))))))))) Kr ?_))))
  refine qK rfl rfl rfl rfl (qK rfl rfl rfl rfl ?_)
  refine s_bool_np 78 rfl (fun r2=>?_) (fun r2=>?_)
  ·
   refine qK rfl rfl rfl rfl (qX rfl rfl rfl rfl (qG (k:=2) rfl rfl rfl rfl υ'105 rfl ζ'3 rfl ?_))
   refine kS (v:=(.int .i64 (fgI w))) (j:=2) (k':=o) (enc:=encY) (off:=io31) rfl rfl rfl rfl α'3 ha31 encY_len hvx Tk (by first | rfl | exact (Ad _).symm | omega) (by rfl) ?_
   refine qB rfl rfl rfl rfl rfl (cB _ _ _ _) ?_
   refine kW rfl rfl rfl rfl rfl (qR (qW [0,3,5,84] (e':=[(0,_),(3,_),(5,_),(84,_)]) rfl ?_))
   refine qQ ?_
   refine qD rfl (fun hfl=>?_) (fun hfl=>?_)
   ·
    refine qC (.q 0 (.q 1 (.q 2 (.q 3 (.q 4 (.q 5 (.q 6 (.q 7 ((.l 8 [] (.q 9 (.q 10 ((.l 11 [] (.done))))))))))))))) Kr ?_
    refine qK rfl rfl rfl rfl (qK rfl rfl rfl rfl (qX rfl rfl rfl rfl (qG (k:=0) rfl rfl rfl rfl υ'101 rfl ζ'96 rfl ?_)))
    refine qP (j:=0) rfl rfl rfl rfl α'96 Tk Az (by rfl) ?_
    refine qX rfl rfl rfl rfl (qG (k:=0) rfl rfl rfl rfl υ'111 rfl ζ'107 rfl ?_)
    refine qP (j:=0) rfl rfl rfl rfl α'107 Tk Az (by rfl) ?_
    have sp_3:=Fe.rlen_spec pa pc cb x.v.ck
    refine qM rfl rfl rfl rfl rfl rfl κ'37 (sp_3) Ts ?_
    rintro ⟨⟩ -
    try simp only [Ca,Na]
    refine qV (qX rfl rfl rfl rfl (qG (k:=2) rfl rfl rfl rfl υ'105 rfl ζ'3 rfl ?_))
    refine sK (j:=2) (k:=o) (q:=(some ⟨rb,0,none⟩,some ⟨wb,0,none⟩,x.v.ck.n)) (enc:=encY) (off:=io31) rfl rfl rfl rfl ζ'3 (us:=[_]) rfl rfl rfl ha31 encY_len hvx Tk (by first | rfl | exact (Ad _).symm | omega) (by first | decide | exact Nat.le_of_ble_eq_true rfl) (by rfl) ?_
    refine qV ?_
    have hq1:(VX.set o (some ⟨rb,0,none⟩,some ⟨wb,0,none⟩,x.v.ck.n))[o]?=some (some ⟨rb,0,none⟩,some ⟨wb,0,none⟩,x.v.ck.n):=List.getElem?_set_self Om
    refine qR (qW [0,3,5] (e':=[(0,_),(3,_),(5,_)]) rfl ?_)
    refine qQ (qL (optR_someF (b:=tb) (t:=l) Tk ?_))
    refine cY (res:=optR) (V:=VT) (Y:=tabF x.v.ck.th.toNat x.v.th) (S:=[]) t Ts (by simp) hta htt ?_
    refine rv_fold (b:=vb) x.v (pa:=pa) (pc:=pc) (cb:=cb) (Ta:=Ta) (Tc:=Tc) (La:=La) (Lc:=Lc) (Oa:=Oa) (Oc:=Oc) (Ra:=Ra) (Rc:=Rc) (VT:=VT) (VL:=VL) (VO:=VO) (VR:=VR) (YR:=YR) Ts (by first | rfl | simp) (by first | rfl | simp) (by first | rfl | simp) (by first | rfl | simp) rfl rfl rfl rfl hVT hVL hVO hVR hK ?_
    refine qC (.q 0 (.q 1 (.q 2 (.done)))) Kr ?_
    refine qG (k:=0) rfl rfl rfl rfl υ'47 rfl ζ'45 rfl ?_
    refine qP (j:=0) rfl rfl rfl rfl α'45 Tk Az (by rfl) ?_
    refine qB rfl rfl rfl rfl rfl (cP _ _ _ _) ?_
    refine qR (qQ ?_)
    refine qD rfl (fun hg=>?_) (fun hg=>by exfalso;omega)
    refine kL rfl (.q 0 (.q 1 (.q 2 (.q 3 (.q 4 (.q 5 (.q 6 (.q 7 (.q 8 (.q 9 (.q 10 (.q 11 ((.l 12 [3,5] ((.l 13 [] (.done))))))))))))))))) Kr ?_
    refine qK rfl rfl rfl rfl (qX rfl rfl rfl rfl (qG (k:=0) rfl rfl rfl rfl υ'105 rfl ζ'102 rfl ?_))
    refine kS (v:=(.pointer (some ⟨rb,0,none⟩))) (j:=0) (k':=o) (enc:=encY) (off:=io31) rfl rfl rfl rfl α'102 ha31 encY_len hq1 Tk (by first | rfl | exact (Ad _).symm | omega) (by rfl) ?_
    refine qG (k:=1) rfl rfl rfl rfl υ'47 rfl ζ'3 rfl ?_
    refine qP (j:=1) rfl rfl rfl rfl α'3 Tk Az (by rfl) ?_
    refine qK rfl rfl rfl rfl (qX rfl rfl rfl rfl (qG (k:=0) rfl rfl rfl rfl υ'101 rfl ζ'96 rfl ?_))
    refine qP (j:=0) rfl rfl rfl rfl α'96 Tk Az (by rfl) ?_
    refine qG (k:=1) rfl rfl rfl rfl υ'47 rfl ζ'3 rfl ?_
    refine qP (j:=1) rfl rfl rfl rfl α'3 Tk Az (by rfl) ?_
    have sp_4:=clock_spec pa pc vb x.v hx.v t l hth
    refine qM rfl rfl rfl rfl rfl rfl κ'39 (sp_4) Ts ?_
    rintro ⟨⟩ -
    try simp only [Ca,Na]
    refine sJ (v:=(.pointer (some ⟨rb,0,none⟩))) (j:=0) (k':=o) (enc:=encY) (off:=io31) rfl rfl rfl α'102 ha31 encY_len hq1 Tk (by first | rfl | exact (Ad _).symm | omega) (by rfl) ?_
    refine qH (q:=1) rfl rfl rfl α'3 Tk Az (by rfl) ?_
    refine qV ?_
    have sp_5:=Rv.set_spec rb w.1 t (l.getD t 0) Om (by exact hlg.1) (by exact hlg.2)
    refine qM rfl rfl rfl rfl rfl rfl κ'38 (sp_5) Ts ?_
    rintro ⟨⟩ -
    try simp only [Ca,Na]
    refine qV (qR (qW [0,3] (e':=[(0,_),(3,_)]) rfl ?_))
    refine qQ (qL (kL rfl (.q 0 (.q 1 (.q 2 (.q 3 (.q 4 ((.l 5 [] (.done)))))))) Kr ?_))
    have hfa:=fg_acc (n:=x.v.ck.n) (k:=k) (t:=((t:Nat):Int)) (l:=l) (w:=w) hnn hn0
    have hrace:raceF k l w∧fgI w < 0:=⟨by unfold raceF;first | exact .inr r2 | exact .inr r1 | exact .inl ⟨by omega,r2⟩ | (rcases r2 with r2 | r2 <;> first | exact .inr r2 | exact .inl ⟨by omega,r2⟩),hfl⟩
    refine s_rvarF rb wb (x.v.ck.n) (acW x.v.ck.n k ((t:Nat):Int) l w) Ts (by unfold acW;simp only;rw [if_neg Om];try rfl) (by unfold acW;simp only;rw [if_neg Om];try rfl) (by rw [hfa.1,if_pos hrace]) hfa.2 ?_
    refine cD (res:=rvarA) (V:=VX) (Y:=x.vs) (S:=[]) o (some ⟨rb,0,none⟩,some ⟨wb,0,none⟩,x.v.ck.n) (acW x.v.ck.n k ((t:Nat):Int) l w) Ts (by simp) Om Om ?_
    refine qK rfl rfl rfl rfl (qX rfl rfl rfl rfl (qG (k:=0) rfl rfl rfl rfl υ'101 rfl ζ'96 rfl ?_))
    refine qP (j:=0) rfl rfl rfl rfl α'96 Tk Az (by rfl) ?_
    refine kG rfl rfl rfl rfl α'47 ζ'47 Tk 0 (us:=[_,_,_]) Az rfl rfl ?_
    have sp_6:=vnext_spec pa pc vb x.v hx.v hn pl hpl k ((t:Nat):Int) ((o:Nat):Int) hv
    refine qM rfl rfl rfl rfl rfl rfl κ'40 (sp_6) Ts ?_
    rintro ⟨⟩ -
    try simp only [Ca,Na]
    refine qV (qR (qW [] (e':=[]) rfl ?_))
    refine qQ (qL (qC (.q 0 (.done)) Kr ?_))
    refine qS rfl rfl rfl rfl (qR (qQ (qJ ?_)))
    have hF:(deF x k ((t:Nat):Int) ((o:Nat):Int))=⟨vnF x.v k ((t:Nat):Int) ((o:Nat):Int),x.vs.set o (acW x.v.ck.n k ((t:Nat):Int) l w),x.cost+k⟩:=by
      rw [de_acc hv Om (by rw [Int.toNat_natCast];exact hw) hth,Int.toNat_natCast]
    refine rd_fold (b:=b) (deF x k ((t:Nat):Int) ((o:Nat):Int)) (pa:=pa) (pc:=pc) (vb:=vb) (Xa:=Xa) (Xc:=Xc) (VX:=(VX.set o (some ⟨rb,0,none⟩,some ⟨wb,0,none⟩,x.v.ck.n))) Ts (by first | rfl | simp) (by rw [hF];congr 1;omega) (by first | exact hVX | simpa using hVX) ?_
    refine kD rfl rfl (()) (by rw [show deE x k ((t:Nat):Int) ((o:Nat):Int)=0 from if_pos hv]) (by trivial) ?_
    exact Tf
   refine qF (qQ (qL (optR_someF (b:=tb) (t:=l) Tk ?_)))
   refine cY (res:=optR) (V:=VT) (Y:=tabF x.v.ck.th.toNat x.v.th) (S:=[]) t Ts (by simp) hta htt ?_
   refine rv_fold (b:=vb) x.v (pa:=pa) (pc:=pc) (cb:=cb) (Ta:=Ta) (Tc:=Tc) (La:=La) (Lc:=Lc) (Oa:=Oa) (Oc:=Oc) (Ra:=Ra) (Rc:=Rc) (VT:=VT) (VL:=VL) (VO:=VO) (VR:=VR) (YR:=YR) Ts (by first | rfl | simp) (by first | rfl | simp) (by first | rfl | simp) (by first | rfl | simp) rfl rfl rfl rfl hVT hVL hVO hVR hK ?_
   refine qC (.q 0 (.q 1 (.q 2 (.done)))) Kr ?_
   refine qG (k:=0) rfl rfl rfl rfl υ'47 rfl ζ'45 rfl ?_
   refine qP (j:=0) rfl rfl rfl rfl α'45 Tk Az (by rfl) ?_
   refine qB rfl rfl rfl rfl rfl (cP _ _ _ _) ?_
   refine qR (qQ ?_)
   refine qD rfl (fun hg=>?_) (fun hg=>by exfalso;omega)
   refine kL rfl (.q 0 (.q 1 (.q 2 (.q 3 (.q 4 (.q 5 (.q 6 (.q 7 (.q 8 (.q 9 (.q 10 (.q 11 ((.l 12 [3,5] ((.l 13 [] (.done))))))))))))))))) Kr ?_
   refine qK rfl rfl rfl rfl (qX rfl rfl rfl rfl (qG (k:=0) rfl rfl rfl rfl υ'105 rfl ζ'102 rfl ?_))
   refine kS (v:=(.pointer (some ⟨rb,0,none⟩))) (j:=0) (k':=o) (enc:=encY) (off:=io31) rfl rfl rfl rfl α'102 ha31 encY_len hvx Tk (by first | rfl | exact (Ad _).symm | omega) (by rfl) ?_
   refine qG (k:=1) rfl rfl rfl rfl υ'47 rfl ζ'3 rfl ?_
   refine qP (j:=1) rfl rfl rfl rfl α'3 Tk Az (by rfl) ?_
   refine qK rfl rfl rfl rfl (qX rfl rfl rfl rfl (qG (k:=0) rfl rfl rfl rfl υ'101 rfl ζ'96 rfl ?_))
   refine qP (j:=0) rfl rfl rfl rfl α'96 Tk Az (by rfl) ?_
   refine qG (k:=1) rfl rfl rfl rfl υ'47 rfl ζ'3 rfl ?_
   refine qP (j:=1) rfl rfl rfl rfl α'3 Tk Az (by rfl) ?_
   have sp_7:=clock_spec pa pc vb x.v hx.v t l hth
   refine qM rfl rfl rfl rfl rfl rfl κ'39 (sp_7) Ts ?_
   rintro ⟨⟩ -
   try simp only [Ca,Na]
   refine sJ (v:=(.pointer (some ⟨rb,0,none⟩))) (j:=0) (k':=o) (enc:=encY) (off:=io31) rfl rfl rfl α'102 ha31 encY_len hvx Tk (by first | rfl | exact (Ad _).symm | omega) (by rfl) ?_
   refine qH (q:=1) rfl rfl rfl α'3 Tk Az (by rfl) ?_
   refine qV ?_
   have sp_8:=Rv.set_spec rb w.1 t (l.getD t 0) Om (by exact hlg.1) (by exact hlg.2)
   refine qM rfl rfl rfl rfl rfl rfl κ'38 (sp_8) Ts ?_
   rintro ⟨⟩ -
   try simp only [Ca,Na]
   refine qV (qR (qW [0,3] (e':=[(0,_),(3,_)]) rfl ?_))
   refine qQ (qL (kL rfl (.q 0 (.q 1 (.q 2 (.q 3 (.q 4 ((.l 5 [] (.done)))))))) Kr ?_))
   have hfa:=fg_acc (n:=x.v.ck.n) (k:=k) (t:=((t:Nat):Int)) (l:=l) (w:=w) hnn hn0
   have hrace:¬ (raceF k l w∧fgI w < 0):=by
     rintro ⟨q1,q2⟩
     first | exact hfl q2 | (unfold raceF at q1;rcases q1 with ⟨q3,q4⟩ | q4 <;> first | omega | exact r2 q4 | exact r1 q4 | exact q4 r2 | exact q4 r1 | exact q4 (Classical.byContradiction r2) | exact q4 (Classical.byContradiction r1))
   refine s_rvarF rb wb (fgI w) (acW x.v.ck.n k ((t:Nat):Int) l w) Ts (by unfold acW;simp only;rw [if_neg Om];try rfl) (by unfold acW;simp only;rw [if_neg Om];try rfl) (by rw [hfa.1,if_neg hrace]) hfa.2 ?_
   refine cD (res:=rvarA) (V:=VX) (Y:=x.vs) (S:=[]) o (some ⟨rb,0,none⟩,some ⟨wb,0,none⟩,fgI w) (acW x.v.ck.n k ((t:Nat):Int) l w) Ts (by simp) Om Om ?_
   rw [set_sameL hvx]
   refine qK rfl rfl rfl rfl (qX rfl rfl rfl rfl (qG (k:=0) rfl rfl rfl rfl υ'101 rfl ζ'96 rfl ?_))
   refine qP (j:=0) rfl rfl rfl rfl α'96 Tk Az (by rfl) ?_
   refine kG rfl rfl rfl rfl α'47 ζ'47 Tk 0 (us:=[_,_,_]) Az rfl rfl ?_
   have sp_9:=vnext_spec pa pc vb x.v hx.v hn pl hpl k ((t:Nat):Int) ((o:Nat):Int) hv
   refine qM rfl rfl rfl rfl rfl rfl κ'40 (sp_9) Ts ?_
   rintro ⟨⟩ -
   try simp only [Ca,Na]
   refine qV (qR (qW [] (e':=[]) rfl ?_))
   refine qQ (qL (qC (.q 0 (.done)) Kr ?_))
   refine qS rfl rfl rfl rfl (qR (qQ (qJ ?_)))
   have hF:(deF x k ((t:Nat):Int) ((o:Nat):Int))=⟨vnF x.v k ((t:Nat):Int) ((o:Nat):Int),x.vs.set o (acW x.v.ck.n k ((t:Nat):Int) l w),x.cost+k⟩:=by
     rw [de_acc hv Om (by rw [Int.toNat_natCast];exact hw) hth,Int.toNat_natCast]
   refine rd_fold (b:=b) (deF x k ((t:Nat):Int) ((o:Nat):Int)) (pa:=pa) (pc:=pc) (vb:=vb) (Xa:=Xa) (Xc:=Xc) (VX:=VX) Ts (by first | rfl | simp) (by rw [hF];congr 1;omega) (by first | exact hVX | simpa using hVX) ?_
   refine kD rfl rfl (()) (by rw [show deE x k ((t:Nat):Int) ((o:Nat):Int)=0 from if_pos hv]) (by trivial) ?_
   exact Tf
  refine qZ rfl rfl rfl rfl (qZ rfl rfl rfl rfl (qZ rfl rfl rfl rfl (qZ rfl rfl rfl rfl (qZ rfl rfl rfl rfl (kN rfl rfl rfl rfl rfl (qR (qW [0,3,5,84] (e':=[(0,_),(3,_),(5,_),(84,_)]) rfl ?_)))))))
  refine qQ (kZ rfl ?_)
  refine qF (qQ (qL (optR_someF (b:=tb) (t:=l) Tk ?_)))
  refine cY (res:=optR) (V:=VT) (Y:=tabF x.v.ck.th.toNat x.v.th) (S:=[]) t Ts (by simp) hta htt ?_
  refine rv_fold (b:=vb) x.v (pa:=pa) (pc:=pc) (cb:=cb) (Ta:=Ta) (Tc:=Tc) (La:=La) (Lc:=Lc) (Oa:=Oa) (Oc:=Oc) (Ra:=Ra) (Rc:=Rc) (VT:=VT) (VL:=VL) (VO:=VO) (VR:=VR) (YR:=YR) Ts (by first | rfl | simp) (by first | rfl | simp) (by first | rfl | simp) (by first | rfl | simp) rfl rfl rfl rfl hVT hVL hVO hVR hK ?_
  refine qC (.q 0 (.q 1 (.q 2 (.done)))) Kr ?_
  refine qG (k:=0) rfl rfl rfl rfl υ'47 rfl ζ'45 rfl ?_
  refine qP (j:=0) rfl rfl rfl rfl α'45 Tk Az (by rfl) ?_
  refine qB rfl rfl rfl rfl rfl (cP _ _ _ _) ?_
  refine qR (qQ ?_)
  refine qD rfl (fun hg=>?_) (fun hg=>by exfalso;omega)
  refine kL rfl (.q 0 (.q 1 (.q 2 (.q 3 (.q 4 (.q 5 (.q 6 (.q 7 (.q 8 (.q 9 (.q 10 (.q 11 ((.l 12 [3,5] ((.l 13 [] (.done))))))))))))))))) Kr ?_
  refine qK rfl rfl rfl rfl (qX rfl rfl rfl rfl (qG (k:=0) rfl rfl rfl rfl υ'105 rfl ζ'102 rfl ?_))
  refine kS (v:=(.pointer (some ⟨rb,0,none⟩))) (j:=0) (k':=o) (enc:=encY) (off:=io31) rfl rfl rfl rfl α'102 ha31 encY_len hvx Tk (by first | rfl | exact (Ad _).symm | omega) (by rfl) ?_
  refine qG (k:=1) rfl rfl rfl rfl υ'47 rfl ζ'3 rfl ?_
  refine qP (j:=1) rfl rfl rfl rfl α'3 Tk Az (by rfl) ?_
  refine qK rfl rfl rfl rfl (qX rfl rfl rfl rfl (qG (k:=0) rfl rfl rfl rfl υ'101 rfl ζ'96 rfl ?_))
  refine qP (j:=0) rfl rfl rfl rfl α'96 Tk Az (by rfl) ?_
  refine qG (k:=1) rfl rfl rfl rfl υ'47 rfl ζ'3 rfl ?_
  refine qP (j:=1) rfl rfl rfl rfl α'3 Tk Az (by rfl) ?_
  have sp_10:=clock_spec pa pc vb x.v hx.v t l hth
  refine qM rfl rfl rfl rfl rfl rfl κ'39 (sp_10) Ts ?_
  rintro ⟨⟩ -
  try simp only [Ca,Na]
  refine sJ (v:=(.pointer (some ⟨rb,0,none⟩))) (j:=0) (k':=o) (enc:=encY) (off:=io31) rfl rfl rfl α'102 ha31 encY_len hvx Tk (by first | rfl | exact (Ad _).symm | omega) (by rfl) ?_
  refine qH (q:=1) rfl rfl rfl α'3 Tk Az (by rfl) ?_
  refine qV ?_
  have sp_11:=Rv.set_spec rb w.1 t (l.getD t 0) Om (by exact hlg.1) (by exact hlg.2)
  refine qM rfl rfl rfl rfl rfl rfl κ'38 (sp_11) Ts ?_
  rintro ⟨⟩ -
  try simp only [Ca,Na]
  refine qV (qR (qW [0,3] (e':=[(0,_),(3,_)]) rfl ?_))
  refine qQ (qL (kL rfl (.q 0 (.q 1 (.q 2 (.q 3 (.q 4 ((.l 5 [] (.done)))))))) Kr ?_))
  have hfa:=fg_acc (n:=x.v.ck.n) (k:=k) (t:=((t:Nat):Int)) (l:=l) (w:=w) hnn hn0
  have hrace:¬ (raceF k l w∧fgI w < 0):=by
    rintro ⟨q1,q2⟩
    first | exact hfl q2 | (unfold raceF at q1;rcases q1 with ⟨q3,q4⟩ | q4 <;> first | omega | exact r2 q4 | exact r1 q4 | exact q4 r2 | exact q4 r1 | exact q4 (Classical.byContradiction r2) | exact q4 (Classical.byContradiction r1))
  refine s_rvarF rb wb (fgI w) (acW x.v.ck.n k ((t:Nat):Int) l w) Ts (by unfold acW;simp only;rw [if_neg Om];try rfl) (by unfold acW;simp only;rw [if_neg Om];try rfl) (by rw [hfa.1,if_neg hrace]) hfa.2 ?_
  refine cD (res:=rvarA) (V:=VX) (Y:=x.vs) (S:=[]) o (some ⟨rb,0,none⟩,some ⟨wb,0,none⟩,fgI w) (acW x.v.ck.n k ((t:Nat):Int) l w) Ts (by simp) Om Om ?_
  rw [set_sameL hvx]
  refine qK rfl rfl rfl rfl (qX rfl rfl rfl rfl (qG (k:=0) rfl rfl rfl rfl υ'101 rfl ζ'96 rfl ?_))
  refine qP (j:=0) rfl rfl rfl rfl α'96 Tk Az (by rfl) ?_
  refine kG rfl rfl rfl rfl α'47 ζ'47 Tk 0 (us:=[_,_,_]) Az rfl rfl ?_
  have sp_12:=vnext_spec pa pc vb x.v hx.v hn pl hpl k ((t:Nat):Int) ((o:Nat):Int) hv
  refine qM rfl rfl rfl rfl rfl rfl κ'40 (sp_12) Ts ?_
  rintro ⟨⟩ -
  try simp only [Ca,Na]
  refine qV (qR (qW [] (e':=[]) rfl ?_))
  refine qQ (qL (qC (.q 0 (.done)) Kr ?_))
  refine qS rfl rfl rfl rfl (qR (qQ (qJ ?_)))
  have hF:(deF x k ((t:Nat):Int) ((o:Nat):Int))=⟨vnF x.v k ((t:Nat):Int) ((o:Nat):Int),x.vs.set o (acW x.v.ck.n k ((t:Nat):Int) l w),x.cost+k⟩:=by
    rw [de_acc hv Om (by rw [Int.toNat_natCast];exact hw) hth,Int.toNat_natCast]
  refine rd_fold (b:=b) (deF x k ((t:Nat):Int) ((o:Nat):Int)) (pa:=pa) (pc:=pc) (vb:=vb) (Xa:=Xa) (Xc:=Xc) (VX:=VX) Ts (by first | rfl | simp) (by rw [hF];congr 1;omega) (by first | exact hVX | simpa using hVX) ?_
  refine kD rfl rfl (()) (by rw [show deE x k ((t:Nat):Int) ((o:Nat):Int)=0 from if_pos hv]) (by trivial) ?_
  exact Tf
 refine qG (k:=0) rfl rfl rfl rfl υ'47 rfl ζ'45 rfl ?_
 refine qP (j:=0) rfl rfl rfl rfl α'45 Tk Az (by rfl) ?_
 refine qB rfl rfl rfl rfl rfl (cP _ _ _ _) ?_
 refine kN rfl rfl rfl rfl rfl (qR (qW [0,3,24] (e':=[(0,_),(3,_),(24,_)]) rfl ?_))
 refine qQ ?_
 refine qD rfl (fun k2=>?_) (fun k2=>?_)
 ·
  refine qL ?_
  obtain ⟨p0,p1⟩:=acc_obj hc Om
  obtain ⟨w,hw⟩:=cR (l:=x.vs) (i:=o) Om
  refine cZ (res:=rvarA) (V:=VX) (Y:=x.vs) (S:=[]) o Tk (by simp) hw fun v hvx=>?_
  refine s_rvar Tk fun rb wb hvq hnn=>?_
  subst hvq
  refine kL rfl (.q 0 (.q 1 (.q 2 (.q 3 (.q 4 (.q 5 (.q 6 (.q 7 (.done))))))))) Kr ?_
  refine qK rfl rfl rfl rfl (qX rfl rfl rfl rfl (qG (k:=1) rfl rfl rfl rfl υ'101 rfl ζ'99 rfl ?_))
  refine qP (j:=1) rfl rfl rfl rfl α'99 Tk Az (by rfl) ?_
  refine qG (k:=2) rfl rfl rfl rfl υ'47 rfl ζ'3 rfl ?_
  refine qP (j:=2) rfl rfl rfl rfl α'3 Tk Az (by rfl) ?_
  refine kF (sz:=2) (k:=o) (enc:=encY) (xs:=VX) rfl rfl rfl rfl rfl υ'99 ζ'105 hvx (by first | rfl | omega) Om Tk ?_
  intro ib31 io31 ha31 hl31 hc31
  refine qS rfl rfl rfl rfl (qR (qW [0,3,5] (e':=[(0,_),(3,_),(5,_)]) rfl ?_))
  refine qQ (qL (rv_open (pa:=pa) (pc:=pc) (b:=vb) (x:=x.v) Tk fun cb Ta Tc La Lc Oa Oc Ra Rc VT VL VO VR YR hVT hVL hVO hVR hK=>?_))
  have hTl:=hx.v.ck.tl
  obtain ⟨-,hts_,-⟩:=stF_nz (x:=x.v.ck) (t:=((t:Nat):Int)) ((hx.v.th _).1 (by rw [hth];rfl))
  rw [Int.toNat_natCast] at hts_
  have htt:(tabF x.v.ck.th.toNat x.v.th)[t]?=some (some l):=by rw [tab_get Om,hth]
  refine cZ (res:=optR) (V:=VT) (Y:=tabF x.v.ck.th.toNat x.v.th) (S:=[]) t Tk (by simp) htt fun ta hta=>?_
  refine optR_some (a:=ta) (t:=l) Tk fun tb htb=>?_
  subst htb
  refine kL rfl (.q 0 (.q 1 (.q 2 (.q 3 (.q 4 (.q 5 (.q 6 (.q 7 (.q 8 (.q 9 (.q 10 (.q 11 (.done))))))))))))) Kr ?_
  refine qK rfl rfl rfl rfl (qX rfl rfl rfl rfl (qG (k:=0) rfl rfl rfl rfl υ'101 rfl ζ'96 rfl ?_))
  refine qP (j:=0) rfl rfl rfl rfl α'96 Tk Az (by rfl) ?_
  refine qX rfl rfl rfl rfl (qG (k:=1) rfl rfl rfl rfl υ'111 rfl ζ'108 rfl ?_)
  refine qP (j:=1) rfl rfl rfl rfl α'108 Tk Az (by rfl) ?_
  refine qG (k:=1) rfl rfl rfl rfl υ'47 rfl ζ'3 rfl ?_
  refine qP (j:=1) rfl rfl rfl rfl α'3 Tk Az (by rfl) ?_
  refine kF (sz:=0) (k:=t) (enc:=encA) (xs:=VT) rfl rfl rfl rfl rfl υ'108 ζ'102 hta (by first | rfl | omega) Om Tk ?_
  intro ib41 io41 ha41 hl41 hc41
  refine kS (v:=(.pointer (some ⟨tb,0,none⟩))) (j:=0) (k':=t) (enc:=encA) (off:=io41) rfl rfl rfl rfl α'102 ha41 encA_len hta Tk (by first | rfl | exact (Ad _).symm | omega) (by rfl) ?_
  refine qS rfl rfl rfl rfl (qR (qW [0,3,5,6] (e':=[(0,_),(3,_),(5,_),(6,_)]) rfl ?_))
  refine qQ (qL (qC (.q 0 (.q 1 (.q 2 (.q 3 (.q 4 ((.l 5 [] (.q 6 (.q 7 (.done)))))))))) Kr ?_))
  refine qK rfl rfl rfl rfl (qX rfl rfl rfl rfl (qG (k:=1) rfl rfl rfl rfl υ'105 rfl ζ'102 rfl ?_))
  refine kS (v:=(.pointer (some ⟨wb,0,none⟩))) (j:=1) (k':=o) (enc:=encY) (off:=io31) rfl rfl rfl rfl α'102 ha31 encY_len hvx Tk (by first | rfl | exact (Ad _).symm | omega) (by rfl) ?_
  refine qK rfl rfl rfl rfl ?_
  have sp_13:=Rv.leq_spec wb tb w.2.1 l
  refine qM rfl rfl rfl rfl rfl rfl Tryz.call36 (sp_13) Ts ?_
  rintro ⟨⟩ -
  try simp only [Ca,Na]
  refine qV (sY rfl rfl rfl rfl ?_)
  refine qS rfl rfl rfl rfl (qR (qW [0,3,5,6,7] (e':=[(0,_),(3,_),(5,_),(6,_),(7,_)]) rfl ?_))
  refine qQ (qL (qC (.q 0 (.q 1 (.q 2 (.q 3 (.q 4 (.q 5 (.q 6 ((.l 7 [] (.done)))))))))) Kr ?_))
  refine qK rfl rfl rfl rfl (qX rfl rfl rfl rfl (qG (k:=2) rfl rfl rfl rfl υ'101 rfl ζ'3 rfl ?_))
  refine qP (j:=2) rfl rfl rfl rfl α'3 Tk Az (by rfl) ?_
  refine qB rfl rfl rfl rfl rfl (cV _ (by exact kP Om Om)) ?_
  refine qX rfl rfl rfl rfl (qG (k:=2) rfl rfl rfl rfl υ'101 rfl ζ'3 rfl ?_)
  refine kH (j:=2) rfl rfl rfl rfl ζ'3 (us:=[_]) rfl rfl rfl Tk Az (by first | decide | (simp;done) | omega) ?_
  simp only [setL,List.set]
  refine qV (qR (qW [0,3,5,6,7] (e':=[(0,_),(3,_),(5,_),(6,_),(7,_)]) rfl ?_))
  refine qQ (qL (qL (qC (.q 0 (.q 1 (.q 2 (.done)))) Kr ?_)))
  refine qG (k:=0) rfl rfl rfl rfl υ'47 rfl ζ'45 rfl ?_
  refine qP (j:=0) rfl rfl rfl rfl α'45 Tk Az (by rfl) ?_
  refine qB rfl rfl rfl rfl rfl (cP _ _ _ _) ?_
  refine qR (qQ ?_)
  refine qD rfl (fun hg=>?_) (fun hg=>by exfalso;omega)
  refine qL (qC (.q 0 (.q 1 (.q 2 (.q 3 (.q 4 (.q 5 (.q 6 ((.l 7 [] (.q 8 (.q 9 (.q 10 (.done))))))))))))) Kr ?_)
  refine qK rfl rfl rfl rfl (qK rfl rfl rfl rfl ?_)
  refine s_bool_np 61 rfl (fun r1=>?_) (fun r1=>?_)
  ·
   refine qZ rfl rfl rfl rfl (qZ rfl rfl rfl rfl (qZ rfl rfl rfl rfl (qZ rfl rfl rfl rfl (qZ rfl rfl rfl rfl (rS rfl rfl rfl rfl ?_)))))
   refine qZ rfl rfl rfl rfl (kW rfl rfl rfl rfl rfl (qS rfl rfl rfl rfl (qR (qW [0,3,5,7] (e':=[(0,_),(3,_),(5,_),(7,_)]) rfl ?_))))
   refine qQ (qC (.q 0 (.q 1 (.q 2 (.q 3 (.q 4 (.q 5 (.q 6 ((.l 7 [] (.done)))))))))) Kr ?_)
   refine qK rfl rfl rfl rfl (qX rfl rfl rfl rfl (qG (k:=2) rfl rfl rfl rfl υ'101 rfl ζ'3 rfl ?_))
   refine qP (j:=2) rfl rfl rfl rfl α'3 Tk Az (by rfl) ?_
   refine qB rfl rfl rfl rfl rfl (cV _ (by exact kP Om Om)) ?_
   refine qX rfl rfl rfl rfl (qG (k:=2) rfl rfl rfl rfl υ'101 rfl ζ'3 rfl ?_)
   refine kH (j:=2) rfl rfl rfl rfl ζ'3 (us:=[_]) rfl rfl rfl Tk Az (by first | decide | (simp;done) | omega) ?_
   simp only [setL,List.set]
   refine qV (qR (qW [0,3,5,7] (e':=[(0,_),(3,_),(5,_),(7,_)]) rfl ?_))
   refine qQ (qL (qL (qC (.q 0 (.q 1 (.q 2 (.q 3 (.q 4 (.q 5 (.q 6 (.q 7 (.done))))))))) Kr ?_)))
   refine qK rfl rfl rfl rfl (qK rfl rfl rfl rfl (qK rfl rfl rfl rfl (qX rfl rfl rfl rfl (qG (k:=2) rfl rfl rfl rfl υ'105 rfl ζ'3 rfl ?_))))
   refine kS (v:=(.int .i64 (fgI w))) (j:=2) (k':=o) (enc:=encY) (off:=io31) rfl rfl rfl rfl α'3 ha31 encY_len hvx Tk (by first | rfl | exact (Ad _).symm | omega) (by rfl) ?_
   refine qB rfl rfl rfl rfl rfl (cB _ _ _ _) ?_
   refine kW rfl rfl rfl rfl rfl (qR (qW [0,3,5,84] (e':=[(0,_),(3,_),(5,_),(84,_)]) rfl ?_))
   refine qQ ?_
   refine qD rfl (fun hfl=>?_) (fun hfl=>?_)
   ·
    refine qC (.q 0 (.q 1 (.q 2 (.q 3 (.q 4 (.q 5 (.q 6 (.q 7 ((.l 8 [] (.q 9 (.q 10 ((.l 11 [] (.done))))))))))))))) Kr ?_
    refine qK rfl rfl rfl rfl (qK rfl rfl rfl rfl (qX rfl rfl rfl rfl (qG (k:=0) rfl rfl rfl rfl υ'101 rfl ζ'96 rfl ?_)))
    refine qP (j:=0) rfl rfl rfl rfl α'96 Tk Az (by rfl) ?_
    refine qX rfl rfl rfl rfl (qG (k:=0) rfl rfl rfl rfl υ'111 rfl ζ'107 rfl ?_)
    refine qP (j:=0) rfl rfl rfl rfl α'107 Tk Az (by rfl) ?_
    have sp_14:=Fe.rlen_spec pa pc cb x.v.ck
    refine qM rfl rfl rfl rfl rfl rfl κ'37 (sp_14) Ts ?_
    rintro ⟨⟩ -
    try simp only [Ca,Na]
    refine qV (qX rfl rfl rfl rfl (qG (k:=2) rfl rfl rfl rfl υ'105 rfl ζ'3 rfl ?_))
    refine sK (j:=2) (k:=o) (q:=(some ⟨rb,0,none⟩,some ⟨wb,0,none⟩,x.v.ck.n)) (enc:=encY) (off:=io31) rfl rfl rfl rfl ζ'3 (us:=[_]) rfl rfl rfl ha31 encY_len hvx Tk (by first | rfl | exact (Ad _).symm | omega) (by first | decide | exact Nat.le_of_ble_eq_true rfl) (by rfl) ?_
    refine qV ?_
    have hq1:(VX.set o (some ⟨rb,0,none⟩,some ⟨wb,0,none⟩,x.v.ck.n))[o]?=some (some ⟨rb,0,none⟩,some ⟨wb,0,none⟩,x.v.ck.n):=List.getElem?_set_self Om
    refine qR (qW [0,3,5] (e':=[(0,_),(3,_),(5,_)]) rfl ?_)
    refine qQ (qL (optR_someF (b:=tb) (t:=l) Tk ?_))
    refine cY (res:=optR) (V:=VT) (Y:=tabF x.v.ck.th.toNat x.v.th) (S:=[]) t Ts (by simp) hta htt ?_
    refine rv_fold (b:=vb) x.v (pa:=pa) (pc:=pc) (cb:=cb) (Ta:=Ta) (Tc:=Tc) (La:=La) (Lc:=Lc) (Oa:=Oa) (Oc:=Oc) (Ra:=Ra) (Rc:=Rc) (VT:=VT) (VL:=VL) (VO:=VO) (VR:=VR) (YR:=YR) Ts (by first | rfl | simp) (by first | rfl | simp) (by first | rfl | simp) (by first | rfl | simp) rfl rfl rfl rfl hVT hVL hVO hVR hK ?_
    refine qC (.q 0 (.q 1 (.q 2 (.done)))) Kr ?_
    refine qG (k:=0) rfl rfl rfl rfl υ'47 rfl ζ'45 rfl ?_
    refine qP (j:=0) rfl rfl rfl rfl α'45 Tk Az (by rfl) ?_
    refine qB rfl rfl rfl rfl rfl (cP _ _ _ _) ?_
    refine qR (qQ ?_)
    refine qD rfl (fun hg=>by exfalso;omega) (fun hg=>?_)
    refine kL rfl (.q 0 (.q 1 (.q 2 (.q 3 (.q 4 (.q 5 (.q 6 (.q 7 (.q 8 (.q 9 (.q 10 (.q 11 ((.l 12 [3,5] ((.l 13 [] (.done))))))))))))))))) Kr ?_
    refine qK rfl rfl rfl rfl (qX rfl rfl rfl rfl (qG (k:=1) rfl rfl rfl rfl υ'105 rfl ζ'102 rfl ?_))
    refine kS (v:=(.pointer (some ⟨wb,0,none⟩))) (j:=1) (k':=o) (enc:=encY) (off:=io31) rfl rfl rfl rfl α'102 ha31 encY_len hq1 Tk (by first | rfl | exact (Ad _).symm | omega) (by rfl) ?_
    refine qG (k:=1) rfl rfl rfl rfl υ'47 rfl ζ'3 rfl ?_
    refine qP (j:=1) rfl rfl rfl rfl α'3 Tk Az (by rfl) ?_
    refine qK rfl rfl rfl rfl (qX rfl rfl rfl rfl (qG (k:=0) rfl rfl rfl rfl υ'101 rfl ζ'96 rfl ?_))
    refine qP (j:=0) rfl rfl rfl rfl α'96 Tk Az (by rfl) ?_
    refine qG (k:=1) rfl rfl rfl rfl υ'47 rfl ζ'3 rfl ?_
    refine qP (j:=1) rfl rfl rfl rfl α'3 Tk Az (by rfl) ?_
    have sp_15:=clock_spec pa pc vb x.v hx.v t l hth
    refine qM rfl rfl rfl rfl rfl rfl κ'39 (sp_15) Ts ?_
    rintro ⟨⟩ -
    try simp only [Ca,Na]
    refine sJ (v:=(.pointer (some ⟨wb,0,none⟩))) (j:=1) (k':=o) (enc:=encY) (off:=io31) rfl rfl rfl α'102 ha31 encY_len hq1 Tk (by first | rfl | exact (Ad _).symm | omega) (by rfl) ?_
    refine qH (q:=1) rfl rfl rfl α'3 Tk Az (by rfl) ?_
    refine qV ?_
    have sp_16:=Rv.set_spec wb w.2.1 t (l.getD t 0) Om (by exact hlg.1) (by exact hlg.2)
    refine qM rfl rfl rfl rfl rfl rfl κ'38 (sp_16) Ts ?_
    rintro ⟨⟩ -
    try simp only [Ca,Na]
    refine qV (qR (qW [0,3] (e':=[(0,_),(3,_)]) rfl ?_))
    refine qQ (qL (kL rfl (.q 0 (.q 1 (.q 2 (.q 3 (.q 4 ((.l 5 [] (.done)))))))) Kr ?_))
    have hfa:=fg_acc (n:=x.v.ck.n) (k:=k) (t:=((t:Nat):Int)) (l:=l) (w:=w) hnn hn0
    have hrace:raceF k l w∧fgI w < 0:=⟨by unfold raceF;first | exact .inr r2 | exact .inr r1 | exact .inl ⟨by omega,r2⟩ | (rcases r2 with r2 | r2 <;> first | exact .inr r2 | exact .inl ⟨by omega,r2⟩),hfl⟩
    refine s_rvarF rb wb (x.v.ck.n) (acW x.v.ck.n k ((t:Nat):Int) l w) Ts (by unfold acW;simp only;rw [if_pos Om];try rfl) (by unfold acW;simp only;rw [if_pos Om];try rfl) (by rw [hfa.1,if_pos hrace]) hfa.2 ?_
    refine cD (res:=rvarA) (V:=VX) (Y:=x.vs) (S:=[]) o (some ⟨rb,0,none⟩,some ⟨wb,0,none⟩,x.v.ck.n) (acW x.v.ck.n k ((t:Nat):Int) l w) Ts (by simp) Om Om ?_
    refine qK rfl rfl rfl rfl (qX rfl rfl rfl rfl (qG (k:=0) rfl rfl rfl rfl υ'101 rfl ζ'96 rfl ?_))
    refine qP (j:=0) rfl rfl rfl rfl α'96 Tk Az (by rfl) ?_
    refine kG rfl rfl rfl rfl α'47 ζ'47 Tk 0 (us:=[_,_,_]) Az rfl rfl ?_
    have sp_17:=vnext_spec pa pc vb x.v hx.v hn pl hpl k ((t:Nat):Int) ((o:Nat):Int) hv
    refine qM rfl rfl rfl rfl rfl rfl κ'40 (sp_17) Ts ?_
    rintro ⟨⟩ -
    try simp only [Ca,Na]
    refine qV (qR (qW [] (e':=[]) rfl ?_))
    refine qQ (qL (qC (.q 0 (.done)) Kr ?_))
    refine qS rfl rfl rfl rfl (qR (qQ (qJ ?_)))
    have hF:(deF x k ((t:Nat):Int) ((o:Nat):Int))=⟨vnF x.v k ((t:Nat):Int) ((o:Nat):Int),x.vs.set o (acW x.v.ck.n k ((t:Nat):Int) l w),x.cost+k⟩:=by
      rw [de_acc hv Om (by rw [Int.toNat_natCast];exact hw) hth,Int.toNat_natCast]
    refine rd_fold (b:=b) (deF x k ((t:Nat):Int) ((o:Nat):Int)) (pa:=pa) (pc:=pc) (vb:=vb) (Xa:=Xa) (Xc:=Xc) (VX:=(VX.set o (some ⟨rb,0,none⟩,some ⟨wb,0,none⟩,x.v.ck.n))) Ts (by first | rfl | simp) (by rw [hF];congr 1;omega) (by first | exact hVX | simpa using hVX) ?_
    refine kD rfl rfl (()) (by rw [show deE x k ((t:Nat):Int) ((o:Nat):Int)=0 from if_pos hv]) (by trivial) ?_
    exact Tf
   refine qF (qQ (qL (optR_someF (b:=tb) (t:=l) Tk ?_)))
   refine cY (res:=optR) (V:=VT) (Y:=tabF x.v.ck.th.toNat x.v.th) (S:=[]) t Ts (by simp) hta htt ?_
   refine rv_fold (b:=vb) x.v (pa:=pa) (pc:=pc) (cb:=cb) (Ta:=Ta) (Tc:=Tc) (La:=La) (Lc:=Lc) (Oa:=Oa) (Oc:=Oc) (Ra:=Ra) (Rc:=Rc) (VT:=VT) (VL:=VL) (VO:=VO) (VR:=VR) (YR:=YR) Ts (by first | rfl | simp) (by first | rfl | simp) (by first | rfl | simp) (by first | rfl | simp) rfl rfl rfl rfl hVT hVL hVO hVR hK ?_
   refine qC (.q 0 (.q 1 (.q 2 (.done)))) Kr ?_
   refine qG (k:=0) rfl rfl rfl rfl υ'47 rfl ζ'45 rfl ?_
   refine qP (j:=0) rfl rfl rfl rfl α'45 Tk Az (by rfl) ?_
   refine qB rfl rfl rfl rfl rfl (cP _ _ _ _) ?_
   refine qR (qQ ?_)
   refine qD rfl (fun hg=>by exfalso;omega) (fun hg=>?_)
   refine kL rfl (.q 0 (.q 1 (.q 2 (.q 3 (.q 4 (.q 5 (.q 6 (.q 7 (.q 8 (.q 9 (.q 10 (.q 11 ((.l 12 [3,5] ((.l 13 [] (.done))))))))))))))))) Kr ?_
   refine qK rfl rfl rfl rfl (qX rfl rfl rfl rfl (qG (k:=1) rfl rfl rfl rfl υ'105 rfl ζ'102 rfl ?_))
   refine kS (v:=(.pointer (some ⟨wb,0,none⟩))) (j:=1) (k':=o) (enc:=encY) (off:=io31) rfl rfl rfl rfl α'102 ha31 encY_len hvx Tk (by first | rfl | exact (Ad _).symm | omega) (by rfl) ?_
   refine qG (k:=1) rfl rfl rfl rfl υ'47 rfl ζ'3 rfl ?_
   refine qP (j:=1) rfl rfl rfl rfl α'3 Tk Az (by rfl) ?_
   refine qK rfl rfl rfl rfl (qX rfl rfl rfl rfl (qG (k:=0) rfl rfl rfl rfl υ'101 rfl ζ'96 rfl ?_))
   refine qP (j:=0) rfl rfl rfl rfl α'96 Tk Az (by rfl) ?_
   refine qG (k:=1) rfl rfl rfl rfl υ'47 rfl ζ'3 rfl ?_
   refine qP (j:=1) rfl rfl rfl rfl α'3 Tk Az (by rfl) ?_
   have sp_18:=clock_spec pa pc vb x.v hx.v t l hth
   refine qM rfl rfl rfl rfl rfl rfl κ'39 (sp_18) Ts ?_
   rintro ⟨⟩ -
   try simp only [Ca,Na]
   refine sJ (v:=(.pointer (some ⟨wb,0,none⟩))) (j:=1) (k':=o) (enc:=encY) (off:=io31) rfl rfl rfl α'102 ha31 encY_len hvx Tk (by first | rfl | exact (Ad _).symm | omega) (by rfl) ?_
   refine qH (q:=1) rfl rfl rfl α'3 Tk Az (by rfl) ?_
   refine qV ?_
   have sp_19:=Rv.set_spec wb w.2.1 t (l.getD t 0) Om (by exact hlg.1) (by exact hlg.2)
   refine qM rfl rfl rfl rfl rfl rfl κ'38 (sp_19) Ts ?_
   rintro ⟨⟩ -
   try simp only [Ca,Na]
   refine qV (qR (qW [0,3] (e':=[(0,_),(3,_)]) rfl ?_))
   refine qQ (qL (kL rfl (.q 0 (.q 1 (.q 2 (.q 3 (.q 4 ((.l 5 [] (.done)))))))) Kr ?_))
   have hfa:=fg_acc (n:=x.v.ck.n) (k:=k) (t:=((t:Nat):Int)) (l:=l) (w:=w) hnn hn0
   have hrace:¬ (raceF k l w∧fgI w < 0):=by
     rintro ⟨q1,q2⟩
     first | exact hfl q2 | (unfold raceF at q1;rcases q1 with ⟨q3,q4⟩ | q4 <;> first | omega | exact r2 q4 | exact r1 q4 | exact q4 r2 | exact q4 r1 | exact q4 (Classical.byContradiction r2) | exact q4 (Classical.byContradiction r1))
   refine s_rvarF rb wb (fgI w) (acW x.v.ck.n k ((t:Nat):Int) l w) Ts (by unfold acW;simp only;rw [if_pos Om];try rfl) (by unfold acW;simp only;rw [if_pos Om];try rfl) (by rw [hfa.1,if_neg hrace]) hfa.2 ?_
   refine cD (res:=rvarA) (V:=VX) (Y:=x.vs) (S:=[]) o (some ⟨rb,0,none⟩,some ⟨wb,0,none⟩,fgI w) (acW x.v.ck.n k ((t:Nat):Int) l w) Ts (by simp) Om Om ?_
   rw [set_sameL hvx]
   refine qK rfl rfl rfl rfl (qX rfl rfl rfl rfl (qG (k:=0) rfl rfl rfl rfl υ'101 rfl ζ'96 rfl ?_))
   refine qP (j:=0) rfl rfl rfl rfl α'96 Tk Az (by rfl) ?_
   refine kG rfl rfl rfl rfl α'47 ζ'47 Tk 0 (us:=[_,_,_]) Az rfl rfl ?_
   have sp_20:=vnext_spec pa pc vb x.v hx.v hn pl hpl k ((t:Nat):Int) ((o:Nat):Int) hv
   refine qM rfl rfl rfl rfl rfl rfl κ'40 (sp_20) Ts ?_
   rintro ⟨⟩ -
   try simp only [Ca,Na]
   refine qV (qR (qW [] (e':=[]) rfl ?_))
   refine qQ (qL (qC (.q 0 (.done)) Kr ?_))
   refine qS rfl rfl rfl rfl (qR (qQ (qJ ?_)))
   have hF:(deF x k ((t:Nat):Int) ((o:Nat):Int))=⟨vnF x.v k ((t:Nat):Int) ((o:Nat):Int),x.vs.set o (acW x.v.ck.n k ((t:Nat):Int) l w),x.cost+k⟩:=by
     rw [de_acc hv Om (by rw [Int.toNat_natCast];exact hw) hth,Int.toNat_natCast]
   refine rd_fold (b:=b) (deF x k ((t:Nat):Int) ((o:Nat):Int)) (pa:=pa) (pc:=pc) (vb:=vb) (Xa:=Xa) (Xc:=Xc) (VX:=VX) Ts (by first | rfl | simp) (by rw [hF];congr 1;omega) (by first | exact hVX | simpa using hVX) ?_
   refine kD rfl rfl (()) (by rw [show deE x k ((t:Nat):Int) ((o:Nat):Int)=0 from if_pos hv]) (by trivial) ?_
   exact Tf
  refine qK rfl rfl rfl rfl (qX rfl rfl rfl rfl (qG (k:=0) rfl rfl rfl rfl υ'105 rfl ζ'102 rfl ?_))
  refine kS (v:=(.pointer (some ⟨rb,0,none⟩))) (j:=0) (k':=o) (enc:=encY) (off:=io31) rfl rfl rfl rfl α'102 ha31 encY_len hvx Tk (by first | rfl | exact (Ad _).symm | omega) (by rfl) ?_
  refine qK rfl rfl rfl rfl ?_
  have sp_21:=Rv.leq_spec rb tb w.1 l
  refine qM rfl rfl rfl rfl rfl rfl Tryz.call36 (sp_21) Ts ?_
  rintro ⟨⟩ -
  try simp only [Ca,Na]
  refine qV (sY rfl rfl rfl rfl ?_)
  refine kN rfl rfl rfl rfl rfl (qS rfl rfl rfl rfl (qR (qW [0,3,5,7] (e':=[(0,_),(3,_),(5,_),(7,_)]) rfl ?_)))
  refine qQ (qC (.q 0 (.q 1 (.q 2 (.q 3 (.q 4 (.q 5 (.q 6 ((.l 7 [] (.done)))))))))) Kr ?_)
  refine qK rfl rfl rfl rfl (qX rfl rfl rfl rfl (qG (k:=2) rfl rfl rfl rfl υ'101 rfl ζ'3 rfl ?_))
  refine qP (j:=2) rfl rfl rfl rfl α'3 Tk Az (by rfl) ?_
  refine qB rfl rfl rfl rfl rfl (cV _ (by exact kP Om Om)) ?_
  refine qX rfl rfl rfl rfl (qG (k:=2) rfl rfl rfl rfl υ'101 rfl ζ'3 rfl ?_)
  refine kH (j:=2) rfl rfl rfl rfl ζ'3 (us:=[_]) rfl rfl rfl Tk Az (by first | decide | (simp;done) | omega) ?_
  simp only [setL,List.set]
  refine qV (qR (qW [0,3,5,7] (e':=[(0,_),(3,_),(5,_),(7,_)]) rfl ?_))
  refine qQ (qL (qL (qC (.q 0 (.q 1 (.q 2 (.q 3 (.q 4 (.q 5 (.q 6 (.q 7 (.done))))))))) Kr ?_)))
  refine qK rfl rfl rfl rfl (qK rfl rfl rfl rfl ?_)
  refine s_bool_np 78 rfl (fun r2=>?_) (fun r2=>?_)
  ·
   refine qK rfl rfl rfl rfl (qX rfl rfl rfl rfl (qG (k:=2) rfl rfl rfl rfl υ'105 rfl ζ'3 rfl ?_))
   refine kS (v:=(.int .i64 (fgI w))) (j:=2) (k':=o) (enc:=encY) (off:=io31) rfl rfl rfl rfl α'3 ha31 encY_len hvx Tk (by first | rfl | exact (Ad _).symm | omega) (by rfl) ?_
   refine qB rfl rfl rfl rfl rfl (cB _ _ _ _) ?_
   refine kW rfl rfl rfl rfl rfl (qR (qW [0,3,5,84] (e':=[(0,_),(3,_),(5,_),(84,_)]) rfl ?_))
   refine qQ ?_
   refine qD rfl (fun hfl=>?_) (fun hfl=>?_)
   ·
    refine qC (.q 0 (.q 1 (.q 2 (.q 3 (.q 4 (.q 5 (.q 6 (.q 7 ((.l 8 [] (.q 9 (.q 10 ((.l 11 [] (.done))))))))))))))) Kr ?_
    refine qK rfl rfl rfl rfl (qK rfl rfl rfl rfl (qX rfl rfl rfl rfl (qG (k:=0) rfl rfl rfl rfl υ'101 rfl ζ'96 rfl ?_)))
    refine qP (j:=0) rfl rfl rfl rfl α'96 Tk Az (by rfl) ?_
    refine qX rfl rfl rfl rfl (qG (k:=0) rfl rfl rfl rfl υ'111 rfl ζ'107 rfl ?_)
    refine qP (j:=0) rfl rfl rfl rfl α'107 Tk Az (by rfl) ?_
    have sp_22:=Fe.rlen_spec pa pc cb x.v.ck
    refine qM rfl rfl rfl rfl rfl rfl κ'37 (sp_22) Ts ?_
    rintro ⟨⟩ -
    try simp only [Ca,Na]
    refine qV (qX rfl rfl rfl rfl (qG (k:=2) rfl rfl rfl rfl υ'105 rfl ζ'3 rfl ?_))
    refine sK (j:=2) (k:=o) (q:=(some ⟨rb,0,none⟩,some ⟨wb,0,none⟩,x.v.ck.n)) (enc:=encY) (off:=io31) rfl rfl rfl rfl ζ'3 (us:=[_]) rfl rfl rfl ha31 encY_len hvx Tk (by first | rfl | exact (Ad _).symm | omega) (by first | decide | exact Nat.le_of_ble_eq_true rfl) (by rfl) ?_
    refine qV ?_
    have hq1:(VX.set o (some ⟨rb,0,none⟩,some ⟨wb,0,none⟩,x.v.ck.n))[o]?=some (some ⟨rb,0,none⟩,some ⟨wb,0,none⟩,x.v.ck.n):=List.getElem?_set_self Om
    refine qR (qW [0,3,5] (e':=[(0,_),(3,_),(5,_)]) rfl ?_)
    refine qQ (qL (optR_someF (b:=tb) (t:=l) Tk ?_))
    refine cY (res:=optR) (V:=VT) (Y:=tabF x.v.ck.th.toNat x.v.th) (S:=[]) t Ts (by simp) hta htt ?_
    refine rv_fold (b:=vb) x.v (pa:=pa) (pc:=pc) (cb:=cb) (Ta:=Ta) (Tc:=Tc) (La:=La) (Lc:=Lc) (Oa:=Oa) (Oc:=Oc) (Ra:=Ra) (Rc:=Rc) (VT:=VT) (VL:=VL) (VO:=VO) (VR:=VR) (YR:=YR) Ts (by first | rfl | simp) (by first | rfl | simp) (by first | rfl | simp) (by first | rfl | simp) rfl rfl rfl rfl hVT hVL hVO hVR hK ?_
    refine qC (.q 0 (.q 1 (.q 2 (.done)))) Kr ?_
    refine qG (k:=0) rfl rfl rfl rfl υ'47 rfl ζ'45 rfl ?_
    refine qP (j:=0) rfl rfl rfl rfl α'45 Tk Az (by rfl) ?_
    refine qB rfl rfl rfl rfl rfl (cP _ _ _ _) ?_
    refine qR (qQ ?_)
    refine qD rfl (fun hg=>by exfalso;omega) (fun hg=>?_)
    refine kL rfl (.q 0 (.q 1 (.q 2 (.q 3 (.q 4 (.q 5 (.q 6 (.q 7 (.q 8 (.q 9 (.q 10 (.q 11 ((.l 12 [3,5] ((.l 13 [] (.done))))))))))))))))) Kr ?_
    refine qK rfl rfl rfl rfl (qX rfl rfl rfl rfl (qG (k:=1) rfl rfl rfl rfl υ'105 rfl ζ'102 rfl ?_))
    refine kS (v:=(.pointer (some ⟨wb,0,none⟩))) (j:=1) (k':=o) (enc:=encY) (off:=io31) rfl rfl rfl rfl α'102 ha31 encY_len hq1 Tk (by first | rfl | exact (Ad _).symm | omega) (by rfl) ?_
    refine qG (k:=1) rfl rfl rfl rfl υ'47 rfl ζ'3 rfl ?_
    refine qP (j:=1) rfl rfl rfl rfl α'3 Tk Az (by rfl) ?_
    refine qK rfl rfl rfl rfl (qX rfl rfl rfl rfl (qG (k:=0) rfl rfl rfl rfl υ'101 rfl ζ'96 rfl ?_))
    refine qP (j:=0) rfl rfl rfl rfl α'96 Tk Az (by rfl) ?_
    refine qG (k:=1) rfl rfl rfl rfl υ'47 rfl ζ'3 rfl ?_
    refine qP (j:=1) rfl rfl rfl rfl α'3 Tk Az (by rfl) ?_
    have sp_23:=clock_spec pa pc vb x.v hx.v t l hth
    refine qM rfl rfl rfl rfl rfl rfl κ'39 (sp_23) Ts ?_
    rintro ⟨⟩ -
    try simp only [Ca,Na]
    refine sJ (v:=(.pointer (some ⟨wb,0,none⟩))) (j:=1) (k':=o) (enc:=encY) (off:=io31) rfl rfl rfl α'102 ha31 encY_len hq1 Tk (by first | rfl | exact (Ad _).symm | omega) (by rfl) ?_
    refine qH (q:=1) rfl rfl rfl α'3 Tk Az (by rfl) ?_
    refine qV ?_
    have sp_24:=Rv.set_spec wb w.2.1 t (l.getD t 0) Om (by exact hlg.1) (by exact hlg.2)
    refine qM rfl rfl rfl rfl rfl rfl κ'38 (sp_24) Ts ?_
    rintro ⟨⟩ -
    try simp only [Ca,Na]
    refine qV (qR (qW [0,3] (e':=[(0,_),(3,_)]) rfl ?_))
    refine qQ (qL (kL rfl (.q 0 (.q 1 (.q 2 (.q 3 (.q 4 ((.l 5 [] (.done)))))))) Kr ?_))
    have hfa:=fg_acc (n:=x.v.ck.n) (k:=k) (t:=((t:Nat):Int)) (l:=l) (w:=w) hnn hn0
    have hrace:raceF k l w∧fgI w < 0:=⟨by unfold raceF;first | exact .inr r2 | exact .inr r1 | exact .inl ⟨by omega,r2⟩ | (rcases r2 with r2 | r2 <;> first | exact .inr r2 | exact .inl ⟨by omega,r2⟩),hfl⟩
    refine s_rvarF rb wb (x.v.ck.n) (acW x.v.ck.n k ((t:Nat):Int) l w) Ts (by unfold acW;simp only;rw [if_pos Om];try rfl) (by unfold acW;simp only;rw [if_pos Om];try rfl) (by rw [hfa.1,if_pos hrace]) hfa.2 ?_
    refine cD (res:=rvarA) (V:=VX) (Y:=x.vs) (S:=[]) o (some ⟨rb,0,none⟩,some ⟨wb,0,none⟩,x.v.ck.n) (acW x.v.ck.n k ((t:Nat):Int) l w) Ts (by simp) Om Om ?_
    refine qK rfl rfl rfl rfl (qX rfl rfl rfl rfl (qG (k:=0) rfl rfl rfl rfl υ'101 rfl ζ'96 rfl ?_))
    refine qP (j:=0) rfl rfl rfl rfl α'96 Tk Az (by rfl) ?_
    refine kG rfl rfl rfl rfl α'47 ζ'47 Tk 0 (us:=[_,_,_]) Az rfl rfl ?_
    have sp_25:=vnext_spec pa pc vb x.v hx.v hn pl hpl k ((t:Nat):Int) ((o:Nat):Int) hv
    refine qM rfl rfl rfl rfl rfl rfl κ'40 (sp_25) Ts ?_
    rintro ⟨⟩ -
    try simp only [Ca,Na]
    refine qV (qR (qW [] (e':=[]) rfl ?_))
    refine qQ (qL (qC (.q 0 (.done)) Kr ?_))
    refine qS rfl rfl rfl rfl (qR (qQ (qJ ?_)))
    have hF:(deF x k ((t:Nat):Int) ((o:Nat):Int))=⟨vnF x.v k ((t:Nat):Int) ((o:Nat):Int),x.vs.set o (acW x.v.ck.n k ((t:Nat):Int) l w),x.cost+k⟩:=by
      rw [de_acc hv Om (by rw [Int.toNat_natCast];exact hw) hth,Int.toNat_natCast]
    refine rd_fold (b:=b) (deF x k ((t:Nat):Int) ((o:Nat):Int)) (pa:=pa) (pc:=pc) (vb:=vb) (Xa:=Xa) (Xc:=Xc) (VX:=(VX.set o (some ⟨rb,0,none⟩,some ⟨wb,0,none⟩,x.v.ck.n))) Ts (by first | rfl | simp) (by rw [hF];congr 1;omega) (by first | exact hVX | simpa using hVX) ?_
    refine kD rfl rfl (()) (by rw [show deE x k ((t:Nat):Int) ((o:Nat):Int)=0 from if_pos hv]) (by trivial) ?_
    exact Tf
   refine qF (qQ (qL (optR_someF (b:=tb) (t:=l) Tk ?_)))
   refine cY (res:=optR) (V:=VT) (Y:=tabF x.v.ck.th.toNat x.v.th) (S:=[]) t Ts (by simp) hta htt ?_
   refine rv_fold (b:=vb) x.v (pa:=pa) (pc:=pc) (cb:=cb) (Ta:=Ta) (Tc:=Tc) (La:=La) (Lc:=Lc) (Oa:=Oa) (Oc:=Oc) (Ra:=Ra) (Rc:=Rc) (VT:=VT) (VL:=VL) (VO:=VO) (VR:=VR) (YR:=YR) Ts (by first | rfl | simp) (by first | rfl | simp) (by first | rfl | simp) (by first | rfl | simp) rfl rfl rfl rfl hVT hVL hVO hVR hK ?_
   refine qC (.q 0 (.q 1 (.q 2 (.done)))) Kr ?_
   refine qG (k:=0) rfl rfl rfl rfl υ'47 rfl ζ'45 rfl ?_
   refine qP (j:=0) rfl rfl rfl rfl α'45 Tk Az (by rfl) ?_
   refine qB rfl rfl rfl rfl rfl (cP _ _ _ _) ?_
   refine qR (qQ ?_)
   refine qD rfl (fun hg=>by exfalso;omega) (fun hg=>?_)
   refine kL rfl (.q 0 (.q 1 (.q 2 (.q 3 (.q 4 (.q 5 (.q 6 (.q 7 (.q 8 (.q 9 (.q 10 (.q 11 ((.l 12 [3,5] ((.l 13 [] (.done))))))))))))))))) Kr ?_
   refine qK rfl rfl rfl rfl (qX rfl rfl rfl rfl (qG (k:=1) rfl rfl rfl rfl υ'105 rfl ζ'102 rfl ?_))
   refine kS (v:=(.pointer (some ⟨wb,0,none⟩))) (j:=1) (k':=o) (enc:=encY) (off:=io31) rfl rfl rfl rfl α'102 ha31 encY_len hvx Tk (by first | rfl | exact (Ad _).symm | omega) (by rfl) ?_
   refine qG (k:=1) rfl rfl rfl rfl υ'47 rfl ζ'3 rfl ?_
   refine qP (j:=1) rfl rfl rfl rfl α'3 Tk Az (by rfl) ?_
   refine qK rfl rfl rfl rfl (qX rfl rfl rfl rfl (qG (k:=0) rfl rfl rfl rfl υ'101 rfl ζ'96 rfl ?_))
   refine qP (j:=0) rfl rfl rfl rfl α'96 Tk Az (by rfl) ?_
   refine qG (k:=1) rfl rfl rfl rfl υ'47 rfl ζ'3 rfl ?_
   refine qP (j:=1) rfl rfl rfl rfl α'3 Tk Az (by rfl) ?_
   have sp_26:=clock_spec pa pc vb x.v hx.v t l hth
   refine qM rfl rfl rfl rfl rfl rfl κ'39 (sp_26) Ts ?_
   rintro ⟨⟩ -
   try simp only [Ca,Na]
   refine sJ (v:=(.pointer (some ⟨wb,0,none⟩))) (j:=1) (k':=o) (enc:=encY) (off:=io31) rfl rfl rfl α'102 ha31 encY_len hvx Tk (by first | rfl | exact (Ad _).symm | omega) (by rfl) ?_
   refine qH (q:=1) rfl rfl rfl α'3 Tk Az (by rfl) ?_
   refine qV ?_
   have sp_27:=Rv.set_spec wb w.2.1 t (l.getD t 0) Om (by exact hlg.1) (by exact hlg.2)
   refine qM rfl rfl rfl rfl rfl rfl κ'38 (sp_27) Ts ?_
   rintro ⟨⟩ -
   try simp only [Ca,Na]
   refine qV (qR (qW [0,3] (e':=[(0,_),(3,_)]) rfl ?_))
   refine qQ (qL (kL rfl (.q 0 (.q 1 (.q 2 (.q 3 (.q 4 ((.l 5 [] (.done)))))))) Kr ?_))
   have hfa:=fg_acc (n:=x.v.ck.n) (k:=k) (t:=((t:Nat):Int)) (l:=l) (w:=w) hnn hn0
   have hrace:¬ (raceF k l w∧fgI w < 0):=by
     rintro ⟨q1,q2⟩
     first | exact hfl q2 | (unfold raceF at q1;rcases q1 with ⟨q3,q4⟩ | q4 <;> first | omega | exact r2 q4 | exact r1 q4 | exact q4 r2 | exact q4 r1 | exact q4 (Classical.byContradiction r2) | exact q4 (Classical.byContradiction r1))
   refine s_rvarF rb wb (fgI w) (acW x.v.ck.n k ((t:Nat):Int) l w) Ts (by unfold acW;simp only;rw [if_pos Om];try rfl) (by unfold acW;simp only;rw [if_pos Om];try rfl) (by rw [hfa.1,if_neg hrace]) hfa.2 ?_
   refine cD (res:=rvarA) (V:=VX) (Y:=x.vs) (S:=[]) o (some ⟨rb,0,none⟩,some ⟨wb,0,none⟩,fgI w) (acW x.v.ck.n k ((t:Nat):Int) l w) Ts (by simp) Om Om ?_
   rw [set_sameL hvx]
   refine qK rfl rfl rfl rfl (qX rfl rfl rfl rfl (qG (k:=0) rfl rfl rfl rfl υ'101 rfl ζ'96 rfl ?_))
   refine qP (j:=0) rfl rfl rfl rfl α'96 Tk Az (by rfl) ?_
   refine kG rfl rfl rfl rfl α'47 ζ'47 Tk 0 (us:=[_,_,_]) Az rfl rfl ?_
   have sp_28:=vnext_spec pa pc vb x.v hx.v hn pl hpl k ((t:Nat):Int) ((o:Nat):Int) hv
   refine qM rfl rfl rfl rfl rfl rfl κ'40 (sp_28) Ts ?_
   rintro ⟨⟩ -
   try simp only [Ca,Na]
   refine qV (qR (qW [] (e':=[]) rfl ?_))
   refine qQ (qL (qC (.q 0 (.done)) Kr ?_))
   refine qS rfl rfl rfl rfl (qR (qQ (qJ ?_)))
   have hF:(deF x k ((t:Nat):Int) ((o:Nat):Int))=⟨vnF x.v k ((t:Nat):Int) ((o:Nat):Int),x.vs.set o (acW x.v.ck.n k ((t:Nat):Int) l w),x.cost+k⟩:=by
     rw [de_acc hv Om (by rw [Int.toNat_natCast];exact hw) hth,Int.toNat_natCast]
   refine rd_fold (b:=b) (deF x k ((t:Nat):Int) ((o:Nat):Int)) (pa:=pa) (pc:=pc) (vb:=vb) (Xa:=Xa) (Xc:=Xc) (VX:=VX) Ts (by first | rfl | simp) (by rw [hF];congr 1;omega) (by first | exact hVX | simpa using hVX) ?_
   refine kD rfl rfl (()) (by rw [show deE x k ((t:Nat):Int) ((o:Nat):Int)=0 from if_pos hv]) (by trivial) ?_
   exact Tf
  refine qZ rfl rfl rfl rfl (qZ rfl rfl rfl rfl (qZ rfl rfl rfl rfl (qZ rfl rfl rfl rfl (qZ rfl rfl rfl rfl (kN rfl rfl rfl rfl rfl (qR (qW [0,3,5,84] (e':=[(0,_),(3,_),(5,_),(84,_)]) rfl ?_)))))))
  refine qQ (kZ rfl ?_)
  refine qF (qQ (qL (optR_someF (b:=tb) (t:=l) Tk ?_)))
  refine cY (res:=optR) (V:=VT) (Y:=tabF x.v.ck.th.toNat x.v.th) (S:=[]) t Ts (by simp) hta htt ?_
  refine rv_fold (b:=vb) x.v (pa:=pa) (pc:=pc) (cb:=cb) (Ta:=Ta) (Tc:=Tc) (La:=La) (Lc:=Lc) (Oa:=Oa) (Oc:=Oc) (Ra:=Ra) (Rc:=Rc) (VT:=VT) (VL:=VL) (VO:=VO) (VR:=VR) (YR:=YR) Ts (by first | rfl | simp) (by first | rfl | simp) (by first | rfl | simp) (by first | rfl | simp) rfl rfl rfl rfl hVT hVL hVO hVR hK ?_
  refine qC (.q 0 (.q 1 (.q 2 (.done)))) Kr ?_
  refine qG (k:=0) rfl rfl rfl rfl υ'47 rfl ζ'45 rfl ?_
  refine qP (j:=0) rfl rfl rfl rfl α'45 Tk Az (by rfl) ?_
  refine qB rfl rfl rfl rfl rfl (cP _ _ _ _) ?_
  refine qR (qQ ?_)
  refine qD rfl (fun hg=>by exfalso;omega) (fun hg=>?_)
  refine kL rfl (.q 0 (.q 1 (.q 2 (.q 3 (.q 4 (.q 5 (.q 6 (.q 7 (.q 8 (.q 9 (.q 10 (.q 11 ((.l 12 [3,5] ((.l 13 [] (.done))))))))))))))))) Kr ?_
  refine qK rfl rfl rfl rfl (qX rfl rfl rfl rfl (qG (k:=1) rfl rfl rfl rfl υ'105 rfl ζ'102 rfl ?_))
  refine kS (v:=(.pointer (some ⟨wb,0,none⟩))) (j:=1) (k':=o) (enc:=encY) (off:=io31) rfl rfl rfl rfl α'102 ha31 encY_len hvx Tk (by first | rfl | exact (Ad _).symm | omega) (by rfl) ?_
  refine qG (k:=1) rfl rfl rfl rfl υ'47 rfl ζ'3 rfl ?_
  refine qP (j:=1) rfl rfl rfl rfl α'3 Tk Az (by rfl) ?_
  refine qK rfl rfl rfl rfl (qX rfl rfl rfl rfl (qG (k:=0) rfl rfl rfl rfl υ'101 rfl ζ'96 rfl ?_))
  refine qP (j:=0) rfl rfl rfl rfl α'96 Tk Az (by rfl) ?_
  refine qG (k:=1) rfl rfl rfl rfl υ'47 rfl ζ'3 rfl ?_
  refine qP (j:=1) rfl rfl rfl rfl α'3 Tk Az (by rfl) ?_
  have sp_29:=clock_spec pa pc vb x.v hx.v t l hth
  refine qM rfl rfl rfl rfl rfl rfl κ'39 (sp_29) Ts ?_
  rintro ⟨⟩ -
  try simp only [Ca,Na]
  refine sJ (v:=(.pointer (some ⟨wb,0,none⟩))) (j:=1) (k':=o) (enc:=encY) (off:=io31) rfl rfl rfl α'102 ha31 encY_len hvx Tk (by first | rfl | exact (Ad _).symm | omega) (by rfl) ?_
  refine qH (q:=1) rfl rfl rfl α'3 Tk Az (by rfl) ?_
  refine qV ?_
  have sp_30:=Rv.set_spec wb w.2.1 t (l.getD t 0) Om (by exact hlg.1) (by exact hlg.2)
  refine qM rfl rfl rfl rfl rfl rfl κ'38 (sp_30) Ts ?_
  rintro ⟨⟩ -
  try simp only [Ca,Na]
  refine qV (qR (qW [0,3] (e':=[(0,_),(3,_)]) rfl ?_))
  refine qQ (qL (kL rfl (.q 0 (.q 1 (.q 2 (.q 3 (.q 4 ((.l 5 [] (.done)))))))) Kr ?_))
  have hfa:=fg_acc (n:=x.v.ck.n) (k:=k) (t:=((t:Nat):Int)) (l:=l) (w:=w) hnn hn0
  have hrace:¬ (raceF k l w∧fgI w < 0):=by
    rintro ⟨q1,q2⟩
    first | exact hfl q2 | (unfold raceF at q1;rcases q1 with ⟨q3,q4⟩ | q4 <;> first | omega | exact r2 q4 | exact r1 q4 | exact q4 r2 | exact q4 r1 | exact q4 (Classical.byContradiction r2) | exact q4 (Classical.byContradiction r1))
  refine s_rvarF rb wb (fgI w) (acW x.v.ck.n k ((t:Nat):Int) l w) Ts (by unfold acW;simp only;rw [if_pos Om];try rfl) (by unfold acW;simp only;rw [if_pos Om];try rfl) (by rw [hfa.1,if_neg hrace]) hfa.2 ?_
  refine cD (res:=rvarA) (V:=VX) (Y:=x.vs) (S:=[]) o (some ⟨rb,0,none⟩,some ⟨wb,0,none⟩,fgI w) (acW x.v.ck.n k ((t:Nat):Int) l w) Ts (by simp) Om Om ?_
  rw [set_sameL hvx]
  refine qK rfl rfl rfl rfl (qX rfl rfl rfl rfl (qG (k:=0) rfl rfl rfl rfl υ'101 rfl ζ'96 rfl ?_))
  refine qP (j:=0) rfl rfl rfl rfl α'96 Tk Az (by rfl) ?_
  refine kG rfl rfl rfl rfl α'47 ζ'47 Tk 0 (us:=[_,_,_]) Az rfl rfl ?_
  have sp_31:=vnext_spec pa pc vb x.v hx.v hn pl hpl k ((t:Nat):Int) ((o:Nat):Int) hv
  refine qM rfl rfl rfl rfl rfl rfl κ'40 (sp_31) Ts ?_
  rintro ⟨⟩ -
  try simp only [Ca,Na]
  refine qV (qR (qW [] (e':=[]) rfl ?_))
  refine qQ (qL (qC (.q 0 (.done)) Kr ?_))
  refine qS rfl rfl rfl rfl (qR (qQ (qJ ?_)))
  have hF:(deF x k ((t:Nat):Int) ((o:Nat):Int))=⟨vnF x.v k ((t:Nat):Int) ((o:Nat):Int),x.vs.set o (acW x.v.ck.n k ((t:Nat):Int) l w),x.cost+k⟩:=by
    rw [de_acc hv Om (by rw [Int.toNat_natCast];exact hw) hth,Int.toNat_natCast]
  refine rd_fold (b:=b) (deF x k ((t:Nat):Int) ((o:Nat):Int)) (pa:=pa) (pc:=pc) (vb:=vb) (Xa:=Xa) (Xc:=Xc) (VX:=VX) Ts (by first | rfl | simp) (by rw [hF];congr 1;omega) (by first | exact hVX | simpa using hVX) ?_
  refine kD rfl rfl (()) (by rw [show deE x k ((t:Nat):Int) ((o:Nat):Int)=0 from if_pos hv]) (by trivial) ?_
  exact Tf
 refine qF (qQ (qL (kL rfl (.q 0 (.q 1 (.q 2 (.q 3 (.q 4 ((.l 5 [] (.done)))))))) Kr ?_)))
 refine qK rfl rfl rfl rfl (qX rfl rfl rfl rfl (qG (k:=0) rfl rfl rfl rfl υ'101 rfl ζ'96 rfl ?_))
 refine qP (j:=0) rfl rfl rfl rfl α'96 Tk Az (by rfl) ?_
 refine kG rfl rfl rfl rfl α'47 ζ'47 Tk 0 (us:=[_,_,_]) Az rfl rfl ?_
 have sp_32:=vnext_spec pa pc vb x.v hx.v hn pl hpl k ((t:Nat):Int) ((o:Nat):Int) hv
 refine qM rfl rfl rfl rfl rfl rfl κ'40 (sp_32) Ts ?_
 rintro ⟨⟩ -
 try simp only [Ca,Na]
 refine qV (qR (qW [] (e':=[]) rfl ?_))
 refine qQ (qL (qC (.q 0 (.done)) Kr ?_))
 refine qS rfl rfl rfl rfl (qR (qQ (qJ ?_)))
 have hF:(deF x k ((t:Nat):Int) ((o:Nat):Int))=⟨vnF x.v k ((t:Nat):Int) ((o:Nat):Int),x.vs,x.cost⟩:=de_no hv Om Om
 refine rd_fold (b:=b) (deF x k ((t:Nat):Int) ((o:Nat):Int)) (pa:=pa) (pc:=pc) (vb:=vb) (Xa:=Xa) (Xc:=Xc) (VX:=VX) Ts (by first | rfl | simp) (by rw [hF]) (by first | exact hVX | simpa using hVX) ?_
 refine kD rfl rfl (()) (by rw [show deE x k ((t:Nat):Int) ((o:Nat):Int)=0 from if_pos hv]) (by trivial) ?_
 exact Tf
theorem revent_spec (pa:Option Addr) (pc b:Nat) (x:DS) (hx:DInv x) (hn:x.v.ck.n≤4000000000000) (pl:List Int) (hpl:x.v.ck.pa=pl) (k t o:Int):Spec Tryz.prog 18 [.pointer (some ⟨b,0,none⟩),.agg #[.int .i64 k,.int .i64 t,.int .i64 o]] [rdR pa pc b x,own 1 encZ pa pc pl] (fun (_:Unit)=>.int .i64 (deE x k t o)) (fun _=>True) (fun _=>[rdR pa pc b (deF x k t o),own 1 encZ pa pc pl]):=by
  by_cases hv:vcanF x.v k t o
  · have hc:=hv.1
    obtain ⟨h1,-⟩:=th_rng hx.v (can_th hc)
    have h2:0≤o:=by
      rcases hc with ⟨a,-,e,-⟩ | ⟨-,e,-⟩
      · rw [e];exact ((stF_inv hx.v.ck t).2.2.1 a).1
      · exact e
    obtain ⟨i,rfl⟩:=Int.eq_ofNat_of_zero_le h1
    obtain ⟨j,rfl⟩:=Int.eq_ofNat_of_zero_le h2
    exact revent_can pa pc b x hx hn pl hpl k i j hv
  · rw [show deE x k t o=6 from if_neg hv,show deF x k t o=x from if_neg hv]
    exact fun Γ w s=>revent_no pa pc b x hx k t o hv (own 1 encZ pa pc pl::Γ) w s
theorem revents_spec (pa:Option Addr) (pc b:Nat) (x:DS) (hx:DInv x) (hn:x.v.ck.n≤2000000000000) (pl:List Int) (hpl:x.v.ck.pa=pl) (xs:List T3) (ao:Option Addr) (n c:Nat) (A:HProp) (hr:RdS A ao (xs.flatMap enc3)) (hxn:xs.length=n) (hb:n≤4000000):Spec Tryz.prog 19 [.pointer (some ⟨b,0,none⟩),.slice ao n c] [A,rdR pa pc b x,own 1 encZ pa pc pl] (fun (i:Nat)=>.tuple #[.int .i64 ((i:Nat):Int),.int .i64 (if i=n then 0 else 6)]) (fun i=>i≤n∧okAll x (xs.take i)∧(i < n→∀ e,xs[i]?=some e→¬ canE (dAll x (xs.take i)) e)) (fun i=>[A,rdR pa pc b (dAll x (xs.take i)),own 1 encZ pa pc pl]):=by
 refine kQ (n:=28) Tryz.func19 rfl rfl rfl ?_
 intro Γ w0
 simp only [argE,Ca,Na,Zd,Nat.reduceAdd]
 refine qL (qC (.q 0 (.q 1 (.done))) Kr ?_)
 refine qS rfl rfl rfl rfl (qS rfl rfl rfl rfl (qR (qQ (qL (qL (qC (.q 0 (.q 1 (.done))) Kr ?_))))))
 refine qK rfl rfl rfl rfl (cG rfl rfl rfl rfl υ'30 ?_)
 refine kB 9 rfl (v':=.bool false) rfl ?_
 refine qR (qQ (kZ rfl ?_))
 refine qF (qQ (qL (qL (qC (.q 0 (.done)) Kr ?_))))
 refine qS rfl rfl rfl rfl (qR (qW [0,1,6] (e':=[(0,_),(1,_),(6,_)]) rfl ?_))
 refine qQ (kC ?_)
 refine cH (α:=Nat) (fun (i:Nat)=>i≤n∧(okAll x (xs.take i))) (fun (i:Nat)=>[(6,.int .i64 ((i:Nat):Int))]) (fun (i:Nat)=>[rdR pa pc b (dAll x (xs.take i)),own 1 encZ pa pc pl]) (fun (i:Nat)=>n - i) [0,1] (er:=[(0,_),(1,_)]) rfl (0) ?_ (by exact ⟨rfl,trivial⟩) (by (try dsimp only);(try simp only [Ad,Zd]);(repeat ((with_reducible apply Z2);focus (first | (with_reducible (repeat (first | exact Z0 | apply Z1));done) | (repeat (first | exact Z0 | apply Z1)))));exact Z3) ?_
 · exact ⟨Nat.zero_le _,fun j e h=>by simp at h⟩
 rintro i ⟨hle_i,ho⟩
 try simp only [Ca,Na]
 obtain ⟨hdn,hdp,hdt,hdv⟩:=dAll_n (xs.take i) x
 rw [List.length_take] at hdn
 refine qL (qL (qC (.q 0 (.q 1 (.q 2 (.q 3 (.done))))) Kr ?_))
 refine qK rfl rfl rfl rfl (qK rfl rfl rfl rfl (cJ rfl rfl rfl rfl υ'48 ?_))
 refine qB rfl rfl rfl rfl rfl (cB _ _ _ _) ?_
 refine qR (qQ ?_)
 refine qD rfl (fun hlt=>?_) (fun hlt=>?_)
 ·
  refine qF (qQ (qL (kC (qL (qC (.q 0 (.q 1 (.q 2 (.q 3 (.q 4 ((.l 5 [] (.q 6 (.done))))))))) Kr ?_)))))
  refine qK rfl rfl rfl rfl (qK rfl rfl rfl rfl (qK rfl rfl rfl rfl ?_))
  obtain ⟨e,he⟩:=cR (l:=xs) (i:=i) (by first | omega | (simp;done) | (simp;omega))
  refine q_idxR (sz:=2) (k:=i) rfl rfl rfl rfl rfl υ'48 ζ'47 (hr) he enc3_len (by first | rfl | omega) Om ?_
  intro ib19 io19 _ hd19
  refine q_loadN (vs:=[_,_,_]) rfl rfl rfl rfl α'47 ζ'47 Tk (hd19) rfl ?_
  have sp_1:=revent_spec pa pc b (dAll x (xs.take i)) (dAll_inv hx _) Om pl (hdp.trans hpl) e.1 e.2.1 e.2.2
  refine qM rfl rfl rfl rfl rfl rfl Tryz.call18 (sp_1) Ts ?_
  rintro ⟨⟩ -
  try simp only [Ca,Na]
  refine qV (qS rfl rfl rfl rfl (qR (qW [0,1,6,7] (e':=[(0,_),(1,_),(6,_),(7,_)]) rfl ?_)))
  refine qQ (qL (qC (.q 0 (.q 1 (.done))) Kr ?_))
  refine qK rfl rfl rfl rfl (qB rfl rfl rfl rfl rfl (b_neq _ _ _ _) ?_)
  refine qR (qQ ?_)
  refine qD rfl (fun hne=>?_) (fun hne=>?_)
  ·
   have hncan:¬ canE (dAll x (xs.take i)) e:=fun h=>hne (if_pos h)
   rw [show deF (dAll x (xs.take i)) e.1 e.2.1 e.2.2=dAll x (xs.take i) from if_neg hncan]
   refine qL (qC (.q 0 (.q 1 (.q 2 (.q 3 (.done))))) Kr ?_)
   refine qK rfl rfl rfl rfl (qK rfl rfl rfl rfl (qS rfl rfl rfl rfl (qS rfl rfl rfl rfl (qR (qW [4,5] (e':=[(4,_),(5,_)]) rfl ?_)))))
   refine qQ (qJ (kM (qN (qN (kM (qN (ret2 rfl rfl rfl (i) (by rw [if_neg Om,show deE (dAll x (xs.take i)) e.1 e.2.1 e.2.2=6 from if_neg hncan]) (by exact ⟨by omega,ho,fun _ e2 h2=>by rw [he] at h2;cases h2;exact hncan⟩) ?_)))))))
   exact Tf
  have hcan:canE (dAll x (xs.take i)) e:=Classical.byContradiction fun h=>hne (by rw [show deE (dAll x (xs.take i)) e.1 e.2.1 e.2.2=6 from if_neg h];decide)
  refine qF (kX (qQ (qC (.q 0 (.q 1 (.q 2 (.done)))) Kr ?_)))
  refine qK rfl rfl rfl rfl (qB rfl rfl rfl rfl rfl (cV _ (by exact kP Om Om)) ?_)
  refine qS rfl rfl rfl rfl (qR (qW [0,1,6] (e':=[(0,_),(1,_),(6,_)]) rfl ?_))
  refine qQ ?_
  rw [show deF (dAll x (xs.take i)) e.1 e.2.1 e.2.2=dAll x (xs.take (i+1)) from (dAll_next he).symm]
  refine kJ (x:=i) (i+1) ?_ ?_ ?_ ?_
  · exact ⟨by omega,okAll_next he ho hcan⟩
  · show n - (i+1) < n - i;omega
  · exact ⟨rfl,rfl,rfl,trivial⟩
  · (try simp only [Ca,Na]);exact Tf
 refine cW (qY (qY (kK (qQ (qL (qC (.q 0 (.q 1 (.q 2 (.q 3 (.done))))) Kr ?_))))))
 refine qK rfl rfl rfl rfl (cJ rfl rfl rfl rfl υ'48 ?_)
 refine qS rfl rfl rfl rfl (qS rfl rfl rfl rfl (qR (qW [4,5] (e':=[(4,_),(5,_)]) rfl ?_)))
 refine qQ (qJ ?_)
 obtain rfl:i=n:=by omega
 refine ret2 rfl rfl rfl (i) (by rw [if_pos rfl]) (by exact ⟨Nat.le_refl _,ho,fun h=>absurd h (Nat.lt_irrefl _)⟩) ?_
 exact Tf
end Go.Ab.Rv
set_option linter.unusedVariables false
set_option linter.unusedSimpArgs false
namespace Go.Ab
open Go
theorem run_next_gen {P:Program} (w:World) (ty:TypeId) (r bm since c0:Nat) (seen:Array Nat) (es:Array MapEntry) (clock:Nat) (hr:w.heap[r]?=some (.mapIter (some bm) since seen c0)) (hb:w.heap[bm]?=some (.map es clock)) (hold:∀ x∈es.toList,x.born < since) (hsc:since≤c0) :
    ((leftOf es seen).size=0∧(Instr.next (.pointer (some ⟨r,0,none⟩)) false ty).run P w=.ok (.tuple #[.bool false]) w) ∨
    ∃ e∈(leftOf es seen).toList,∃ w1:World,(w1.heap=w.heap∧w1.os=w.os∧w1.tape=w.tape∧w1.output=w.output)∧(Instr.next (.pointer (some ⟨r,0,none⟩)) false ty).run P w=.ok (.tuple #[.bool true,e.key,e.val]) { w1 with heap:=w1.heap.setIfInBounds r (.mapIter (some bm) since (seen.push e.born) clock) }:=by
  simp only [Instr.next,getObj,Sem.run_bind,Sem.run,hr,hb,Result.andThen,next_test_false seen es since c0 hold hsc,Bool.false_eq_true,if_false]
  unfold leftOf
  have hmem:∀ x∈(Array.filter (fun e=>!seen.contains e.born) es).toList,x.born < since:=fun x hx=>hold x (by simp at hx ⊢;exact hx.1)
  generalize Array.filter (fun e=>!seen.contains e.born) es=L at hmem ⊢
  have e1:L.filter (fun x=>decide (x.born < since))=L:=Array.filter_eq_self.2 (fun x hx=>by simpa using hmem x (by simpa using hx))
  have e2:L.filter (fun x=>decide (x.born ≥ since))=#[]:=by
    rw [Array.filter_eq_empty_iff]
    intro x hx
    have:=hmem x (by simpa using hx)
    simp
    omega
  simp only [e1,e2,Array.append_empty]
  by_cases h0:L.size=0
  · left
    have:L=#[]:=Array.eq_empty_of_size_eq_zero h0
    subst this
    refine ⟨rfl,?_⟩
    simp [choose,Sem.run,Question.forced]
  · right
    have hne:L.isEmpty=false:=by simp [Array.isEmpty,h0]
    simp only [hne,Bool.false_eq_true,if_false,Array.empty_append,Array.size_map]
    have hch:∃ (j:Nat) (w1:World),j < L.size∧(w1.heap=w.heap∧w1.os=w.os∧w1.tape=w.tape∧w1.output=w.output)∧(choose (Question.mapNext L.size)).run P w=.ok j w1:=by
      by_cases hf:L.size≤1
      · exact ⟨0,w,by omega,⟨rfl,rfl,rfl,rfl⟩,by simp [choose,Sem.run,Question.forced,hf]⟩
      · exact ⟨_,w.drew,Nat.mod_lt _ Om,⟨rfl,rfl,rfl,rfl⟩,by
          simp only [choose,Sem.run,Question.forced,decide_eq_true_eq,hf,if_false,Question.cut]
          rfl⟩
    obtain ⟨j,w1,hj,hal,hrun⟩:=hch
    refine ⟨L[j],by simp,w1,hal,?_⟩
    have hr1:w1.heap[r]?=some (.mapIter (some bm) since seen c0):=by rw [hal.1];exact hr
    have hset:∀ o',(setObj r o').run P w1=.ok () { w1 with heap:=w1.heap.setIfInBounds r o' }:=fun o'=>by
      simp [setObj,Sem.run,hr1]
    simp only [hrun,Array.getElem?_map,Array.getElem?_eq_getElem hj,Option.map_some,Sem.run_bind,hset,Result.andThen]
    rfl
theorem run_entry_gen {P:Program} (w:World) (r bm since:Nat) (seen:Array Nat) (es:Array MapEntry) (clock:Nat) (e:MapEntry) (hr:w.heap[r]?=some (.mapIter (some bm) since (seen.push e.born) clock)) (hb:w.heap[bm]?=some (.map es clock)) (he:e∈es.toList) (hn:(es.toList.map (·.born)).Nodup) :
    (Instr.entry (.pointer (some ⟨r,0,none⟩))).run P w=.ok (.tuple #[e.key,e.val]) w:=by
  have hf:es.find? (·.born == e.born)=some e:=by rw [← Array.find?_toList];exact find_born e es.toList hn he
  simp only [Instr.entry,getObj,Sem.run_bind,Sem.run,hr,hb,Result.andThen,Array.back?_push,bne_self_eq_false,Bool.false_eq_true,if_false,hf]
  rfl
theorem iter_no {a b c d}:∀ x y z,Obj.mapIter a b c d≠.cells x y z:=fun _ _ _ h=>by cases h
/-- A loop over the map m: F what it holds (N entries), vis the keys gone over. -/
structure RngL {κ ν:Type} (F:κ→Option ν) (M:List (κ × ν × Nat)) (clock:Nat) (seen:List Nat) (vis:List κ) (N:Nat):Prop where
  map:MapL F M clock
  len:M.length=N
  vs:∃ V:List (κ × ν × Nat),(∀ p∈V,p∈M)∧V.map (·.1)=vis∧V.map (·.2.2)=seen
def rng {κ ν:Type} (ek:κ→Value) (ev:ν→Value) (r m:Nat) (F:κ→Option ν) (vis:List κ) (N:Nat):HProp:=fun h =>
  ∃ (M:List (κ × ν × Nat)) (clock since:Nat) (seen:List Nat),RngL F M clock seen vis N∧(∀ p∈M,p.2.2 < since)∧since≤clock∧Sat [objP r (.mapIter (some m) since seen.toArray clock),objP m (.map (M.map (mke ek ev)).toArray clock)] h
section
variable {κ ν:Type} {F:κ→Option ν} {M:List (κ × ν × Nat)} {clock N:Nat} {seen:List Nat} {vis:List κ}
theorem RngL.facts (h:RngL F M clock seen vis N):(∀ k∈vis,∃ v,F k=some v):=fun k hk=>by
  obtain ⟨V,h1,h2,-⟩:=h.vs
  rw [← h2] at hk
  obtain ⟨p,hp,rfl⟩:=List.mem_map.1 hk
  exact ⟨p.2.1,(h.map.tells _ _).2 ⟨p.2.2,h1 p hp⟩⟩
theorem born_inj' (h:MapL F M clock) {p q:κ × ν × Nat} (hp:p∈M) (hq:q∈M) (e:p.2.2=q.2.2):p=q:=by
  obtain ⟨i,hi⟩:=List.getElem?_of_mem hp
  obtain ⟨j,hj⟩:=List.getElem?_of_mem hq
  have:i=j:=nodup_idx h.born (x:=p.2.2) (by rw [List.getElem?_map,hi];rfl) (by rw [List.getElem?_map,hj,e];rfl)
  subst this
  rw [hi] at hj;cases hj;rfl
theorem key_inj' (h:MapL F M clock) {p q:κ × ν × Nat} (hp:p∈M) (hq:q∈M) (e:p.1=q.1):p=q:=by
  obtain ⟨i,hi⟩:=List.getElem?_of_mem hp
  obtain ⟨j,hj⟩:=List.getElem?_of_mem hq
  have:i=j:=nodup_idx h.keys (x:=p.1) (by rw [List.getElem?_map,hi];rfl) (by rw [List.getElem?_map,hj,e];rfl)
  subst this
  rw [hi] at hj;cases hj;rfl
theorem nodup_sub_len {α:Type} [DecidableEq α]:∀ {a b:List α},a.Nodup→(∀ x∈a,x∈b)→a.length≤b.length
  | [],_,_,_=>Nat.zero_le _
  | x::a,b,hn,hs=>by
    rw [List.nodup_cons] at hn
    have h1:x∈b:=hs x List.mem_cons_self
    have h2:=nodup_sub_len (a:=a) (b:=b.erase x) hn.2 fun y hy=>(List.mem_erase_of_ne (fun e:y=x=>hn.1 (by rw [← e];exact hy))).2 (hs y (List.mem_cons_of_mem _ hy))
    have h3:=List.length_erase_of_mem h1
    have h4:=List.length_pos_of_mem h1
    simp only [List.length_cons];omega
end
section
variable {P:Program} {r:Option Nat} {w0:World} {ds:List Deferred} {n:Nat} {e:Env} {Γ:List HProp} {K:Act→World→Prop} {l:List Oper} {i:Nat} {t:RT} {fl:List Nat}
variable {d:Nat} {ty:TypeId} {pos:String} {af:Array Edge} {g:Option (Nat × Bool)}
variable {κ ν:Type} {ek:κ→Value} {ev1:ν→Value} {F:κ→Option ν}
theorem l_range {T kt et:TypeId} {x:Operand} {m:Nat} {Γ':List HProp} (ho:nthO l i=some ⟨some d,.range T x,ty,pos,af,g⟩) (hg:gd l e g=some true) (hn:Nat.blt d n=true) (hx:ev e x=some (.map (some m))) (hT:P.underlying T=some (.map kt et)) (tk:Take Γ (mapO ek ev1 m F) Γ')
    (k1:∀ r1 N,Le (St w0 ds n ((d,.pointer (some ⟨r1,0,none⟩))::e) (rng ek ev1 r1 m F [] N::Γ')) (AG P r l.toArray fl (wpRT P r l.toArray K t))):Le (St w0 ds n e Γ) (wpRT P r l.toArray K (.l i fl t)) :=
  l_gen ho hg (fun _ h=>by cases h) (fun a w s=>by
    obtain ⟨M,hM⟩:=(tk _ s.heap).ex
    obtain ⟨clock,hM⟩:=hM.ex
    obtain ⟨h1,h2⟩:=hM.pure_and
    have hb:=h2.obj.1
    have hr':(execOp a.eval ⟨some d,.range T x,ty,pos,af,g⟩).run P w=.ok (.value (.pointer (some ⟨w.heap.size,0,none⟩))) (w.alloc (.mapIter (some m) clock #[] clock)):=by
      simp [execOp,s.ev hx,run_range_map w T kt et m _ clock hT hb]
    rw [hr']
    have s1:=h2.newObj (.mapIter (some m) clock #[] clock) iter_no
    obtain ⟨h3,l3,a3,s3⟩:=s1
    have s4:Sat (rng ek ev1 w.heap.size m F [] M.length::Γ') (lh (w.alloc (.mapIter (some m) clock #[] clock))):=by
      obtain ⟨h5,l5,a5,s5⟩:=Bun.fold (Γ:=[objP w.heap.size (.mapIter (some m) clock #[] clock),objP m (.map (M.map (mke ek ev1)).toArray clock)]) ⟨h3,l3,a3,s3⟩
      exact ⟨h5,l5,⟨M,clock,clock,[],⟨h1,rfl,[],by simp,rfl,rfl⟩,h1.lt,Nat.le_refl _,a5⟩,s5⟩
    exact k1 _ _ _ _ ((s.world s4 ⟨rfl,rfl,rfl,by simp⟩).put hn))
theorem l_next [DecidableEq κ] {x:Operand} {r1 m N:Nat} {vis:List κ} {Γ':List HProp} (ho:nthO l i=some ⟨some d,.next x false,ty,pos,af,g⟩) (hg:gd l e g=some true) (hn:Nat.blt d n=true) (hx:ev e x=some (.pointer (some ⟨r1,0,none⟩))) (hnd:vis.Nodup) (tk:Take Γ (rng ek ev1 r1 m F vis N) Γ')
    (k0:(∀ k v,F k=some v→k∈vis)→(∀ k∈vis,∃ v,F k=some v)→Le (St w0 ds n ((d,.tuple #[.bool false])::e) (mapO ek ev1 m F::Γ')) (AG P r l.toArray fl (wpRT P r l.toArray K t)))
    (k1:∀ k v,F k=some v→k ∉ vis→vis.length < N→Le (St w0 ds n ((d,.tuple #[.bool true,ek k,ev1 v])::e) (rng ek ev1 r1 m F (vis++[k]) N::Γ')) (AG P r l.toArray fl (wpRT P r l.toArray K t))):Le (St w0 ds n e Γ) (wpRT P r l.toArray K (.l i fl t)) :=
  l_gen ho hg (fun _ h=>by cases h) (fun a w s=>by
    have s0:=tk _ s.heap
    obtain ⟨h1,l1,⟨M,clock,since,seen,hR,hold,hsc,a1⟩,s1⟩:=s0
    have s2:Sat (objP r1 (.mapIter (some m) since seen.toArray clock)::objP m (.map (M.map (mke ek ev1)).toArray clock)::Γ') (lh w):=Bun.unfold ⟨h1,l1,a1,s1⟩
    have hbr:=s2.obj.1
    have hbm:=(Sat.swap s2).obj.1
    obtain ⟨V,v1,v2,v3⟩:=hR.vs
    rcases run_next_gen (P:=P) w ty r1 m since clock seen.toArray _ clock hbr hbm (fun y hy=>by
        simp only [List.mem_map] at hy
        obtain ⟨p,hp,rfl⟩:=hy
        exact hold p hp) hsc with ⟨h3,h4⟩ | ⟨en,h3,w1,⟨q1,q2,q3,q4⟩,h4⟩
    · have hr':(execOp a.eval ⟨some d,.next x false,ty,pos,af,g⟩).run P w=.ok (.value (.tuple #[.bool false])) w:=by simp [execOp,s.ev hx,h4]
      rw [hr']
      have hall:∀ k v,F k=some v→k∈vis:=fun k v hkv=>by
        obtain ⟨b,hb⟩:=(hR.map.tells k v).1 hkv
        have hin:b∈seen:=by
          by_cases hs:b∈seen
          · exact hs
          · exfalso
            have hm:mke ek ev1 (k,v,b)∈(leftOf (M.map (mke ek ev1)).toArray seen.toArray).toList:=by
              unfold leftOf
              simp only [Array.toList_filter,List.mem_filter,List.mem_map]
              exact ⟨⟨_,hb,rfl⟩,by simp [mke,hs]⟩
            have:0 < (leftOf (M.map (mke ek ev1)).toArray seen.toArray).toList.length:=List.length_pos_of_mem hm
            simp at this;omega
        rw [← v3] at hin
        obtain ⟨p,hp,hpb⟩:=List.mem_map.1 hin
        have:=born_inj' hR.map (v1 p hp) hb hpb
        rw [← v2];exact List.mem_map.2 ⟨p,hp,by rw [this]⟩
      have sm:Sat (mapO ek ev1 m F::Γ') (lh w):=by
        obtain ⟨h6,l6,a6,s6⟩:=Sat.swap s2
        obtain ⟨h7,l7,a7,s7⟩:=s6
        exact ⟨h6,l6,⟨M,clock,hR.map,a6⟩,s7.mono (Hmin_le _ _)⟩
      exact k0 hall hR.facts _ _ ((s.world sm (Amb.refl w)).put hn)
    · obtain ⟨p,hp,rfl⟩:∃ p∈M,mke ek ev1 p=en:=by
        have:=(mem_left h3).1
        simpa using this
      have hns:p.2.2 ∉ seen:=by
        have:=(mem_left h3).2
        simpa [mke] using this
      have hr':(execOp a.eval ⟨some d,.next x false,ty,pos,af,g⟩).run P w=.ok (.value (.tuple #[.bool true,ek p.1,ev1 p.2.1])) { w1 with heap:=w1.heap.setIfInBounds r1 (.mapIter (some m) since (seen.toArray.push p.2.2) clock) }:=by
        simp [execOp,s.ev hx,h4,mke]
      rw [hr']
      have hkn:p.1 ∉ vis:=fun hk=>by
        rw [← v2] at hk
        obtain ⟨q,hq,hqk⟩:=List.mem_map.1 hk
        have:=key_inj' hR.map (v1 q hq) hp hqk
        subst this
        exact hns (v3 ▸ List.mem_map.2 ⟨q,hq,rfl⟩)
      have hlt:vis.length < N:=by
        have h8:=nodup_sub_len (a:=vis++[p.1]) (b:=M.map (·.1)) (List.nodup_append.2 ⟨hnd,by simp,fun a ha b hb=>by simp at hb;subst hb;intro e;exact hkn (e ▸ ha)⟩) (fun k hk=>by
          rcases List.mem_append.1 hk with hk | hk
          · rw [← v2] at hk
            obtain ⟨q,hq,rfl⟩:=List.mem_map.1 hk
            exact List.mem_map.2 ⟨q,v1 q hq,rfl⟩
          · simp at hk;subst hk;exact List.mem_map.2 ⟨p,hp,rfl⟩)
        rw [List.length_append,List.length_map,hR.len] at h8
        simp at h8;omega
      have s3:=s2.setObj (.mapIter (some m) since (seen.toArray.push p.2.2) clock) iter_no
      have hw:lh { w1 with heap:=w1.heap.setIfInBounds r1 (.mapIter (some m) since (seen.toArray.push p.2.2) clock) }=lh { w with heap:=w.heap.setIfInBounds r1 (.mapIter (some m) since (seen.toArray.push p.2.2) clock) }:=by
        unfold lh;simp only [q1]
      have s4:Sat (rng ek ev1 r1 m F (vis++[p.1]) N::Γ') (lh { w1 with heap:=w1.heap.setIfInBounds r1 (.mapIter (some m) since (seen.toArray.push p.2.2) clock) }):=by
        rw [hw]
        obtain ⟨h5,l5,a5,s5⟩:=Bun.fold (Γ:=[objP r1 (.mapIter (some m) since (seen.toArray.push p.2.2) clock),objP m (.map (M.map (mke ek ev1)).toArray clock)]) s3
        refine ⟨h5,l5,⟨M,clock,since,seen++[p.2.2],⟨hR.map,hR.len,V++[p],?_,?_,?_⟩,hold,hsc,?_⟩,s5⟩
        · intro q hq
          rcases List.mem_append.1 hq with hq | hq
          · exact v1 q hq
          · simp at hq;subst hq;exact hp
        · simp [v2]
        · simp [v3]
        · have e9:(seen++[p.2.2]).toArray=seen.toArray.push p.2.2:=by simp
          rw [e9];exact a5
      exact k1 p.1 p.2.1 ((hR.map.tells _ _).2 ⟨p.2.2,hp⟩) hkn hlt _ _ ((s.world s4 ⟨q2,q3,q4,by simp [q1]⟩).put hn))
theorem q_entry {x:Operand} {r1 m N:Nat} {vis:List κ} {k:κ} {v:ν} {Γ':List HProp} (ho:nthO l i=some ⟨some d,.entry x,ty,pos,af,g⟩) (hg:gd l e g=some true) (hn:Nat.blt d n=true) (hx:ev e x=some (.pointer (some ⟨r1,0,none⟩))) (hF:F k=some v) (tk:Take Γ (rng ek ev1 r1 m F (vis++[k]) N) Γ')
    (k1:Le (St w0 ds n ((d,.tuple #[ek k,ev1 v])::e) Γ) (wpRT P r l.toArray K t)):Le (St w0 ds n e Γ) (wpRT P r l.toArray K (.q i t)) :=
  q_read ho hg rfl hn rfl (fun _ h=>by cases h) (fun a w s=>by
    obtain ⟨h1,l1,⟨M,clock,since,seen,hR,hold,hsc,a1⟩,s1⟩:=tk _ s.heap
    have s2:Sat (objP r1 (.mapIter (some m) since seen.toArray clock)::objP m (.map (M.map (mke ek ev1)).toArray clock)::Γ') (lh w):=Bun.unfold ⟨h1,l1,a1,s1⟩
    have hbr:=s2.obj.1
    have hbm:=(Sat.swap s2).obj.1
    obtain ⟨V,v1,v2,v3⟩:=hR.vs
    obtain ⟨b,hb⟩:=(hR.map.tells k v).1 hF
    have hV:∃ V0,V=V0++[(k,v,b)]:=by
      have hne:V≠[]:=fun e=>by rw [e] at v2;simp at v2
      refine ⟨V.dropLast,?_⟩
      have h3:=List.dropLast_concat_getLast hne
      have h4:(V.getLast hne).1=k:=by
        have h5:(V.map (·.1)).getLast?=(vis++[k]).getLast?:=by rw [v2]
        rw [List.getLast?_map,List.getLast?_eq_some_getLast hne] at h5
        simpa using h5
      have h5:=key_inj' hR.map (v1 _ (List.getLast_mem hne)) hb h4
      rw [← h5];exact h3.symm
    obtain ⟨V0,rfl⟩:=hV
    have hseen:seen.toArray=(V0.map (·.2.2)).toArray.push b:=by rw [← v3];simp
    rw [hseen] at hbr
    have hrun:=run_entry_gen (P:=P) w r1 m since (V0.map (·.2.2)).toArray _ clock (mke ek ev1 (k,v,b)) hbr hbm (by simpa using ⟨k,v,b,hb,rfl⟩) (by simpa [mke,Function.comp_def] using hR.map.born)
    simp [execOp,s.ev hx,hrun,mke]) k1
end
end Go.Ab
set_option linter.unusedVariables false
set_option linter.unusedSimpArgs false
namespace Go.Ab
open Go
section
variable {P:Program} {r:Option Nat} {w0:World} {ds:List Deferred} {n:Nat} {e:Env} {Γ:List HProp} {K:Act→World→Prop} {l:List Oper} {i:Nat} {t:RT} {fl:List Nat}
variable {d:Nat} {ty:TypeId} {pos:String} {af:Array Edge} {g:Option (Nat × Bool)}
theorem run_indexAtA {T E:TypeId} {b o m sz:Nat} {k':IntKind} {ix:Int} (hu:P.underlying T=some (.array m E)) (hs:∀ w,(sizeOf E).run P w=.ok sz w) (h0:0≤ix) (h1:ix < m) (w:World) :
    (Instr.indexAt T (.pointer (some ⟨b,o,none⟩)) (.int k' ix)).run P w=.ok (.pointer (some ⟨b,o+ix.toNat*sz,none⟩)) w:=by
  have h2:0≤ix∧ix < m:=⟨h0,h1⟩
  simp [Instr.indexAt,Instr.sureAddr,asIntOf,run_underlying hu,hs,h2,add_none]
theorem q_idxA {T E:TypeId} {x y:Operand} {b o m sz k:Nat} {k':IntKind} {ix:Int} (ho:nthO l i=some ⟨some d,.indexAddr T x y,ty,pos,af,g⟩) (hg:gd l e g=some true) (hn:Nat.blt d n=true)
    (hx:ev e x=some (.pointer (some ⟨b,o,none⟩))) (hy:ev e y=some (.int k' ix)) (hu:P.underlying T=some (.array m E)) (hs:∀ w,(sizeOf E).run P w=.ok sz w) (hi:ix=(k:Int)) (h1:k < m)
    (kk:Le (St w0 ds n ((d,.pointer (some ⟨b,o+k*sz,none⟩))::e) Γ) (wpRT P r l.toArray K t)):Le (St w0 ds n e Γ) (wpRT P r l.toArray K (.q i t)):=by
  subst hi
  exact q_pure ho hg rfl hn rfl (fun _ h=>by cases h) (fun a w s w'=>by simp [execOp,s.ev hx,s.ev hy,run_indexAtA hu hs Om (by omega:(k:Int) < m)]) kk
end
end Go.Ab
set_option linter.unusedVariables false
set_option linter.unusedSimpArgs false
namespace Go.Ab.Mc
open Go Go.Proofs Go.Ab
theorem nodup_snoc {κ:Type} {S:List κ} {k:κ} (h:S.Nodup) (hk:k ∉ S):(S++[k]).Nodup:=List.nodup_append.2 ⟨h,by simp,fun a ha b hb=>by simp at hb;subst hb;intro e;exact hk (e ▸ ha)⟩
section
variable {κ ν τ:Type} [DecidableEq κ]
/-- A table, only where S is. -/
def rs {τ:Type} (S:List κ) (T:κ→Option τ):κ→Option τ:=fun k=>if k∈S then T k else none
/-- A table that is G where S is. -/
def ov {τ:Type} (S:List κ) (G F:κ→Option τ):κ→Option τ:=fun k=>if k∈S then G k else F k
theorem ov_nil (G F:κ→Option τ):ov [] G F=F:=by funext k;simp [ov]
theorem rs_nil (T:κ→Option τ):rs ([]:List κ) T=fun _=>none:=by funext k;simp [rs]
theorem ov_next {S:List κ} {G F:κ→Option τ} {k:κ} {v:Option τ}:upd (ov S G F) k v=ov (S++[k]) (upd G k v) F:=by
  funext q
  by_cases h:q=k
  · subst h;simp [ov,upd]
  · simp [ov,upd,h]
theorem rs_next {S:List κ} {G:κ→Option τ} {k:κ} {v:Option τ}:upd (rs S G) k v=rs (S++[k]) (upd G k v):=by
  funext q
  by_cases h:q=k
  · subst h;simp [rs,upd]
  · simp [rs,upd,h]
theorem ov_all {S:List κ} {G F:κ→Option τ} (h:∀ k v,F k=some v→k∈S):ov S G F=rs S G:=by
  funext k
  unfold ov rs
  split
  · rfl
  · rename_i hk
    cases hF:F k with
    | none=>rfl
    | some v=>exact absurd (h k v hF) hk
theorem rs_all {S:List κ} {F:κ→Option ν} {T:κ→Option τ} (h:∀ k v,F k=some v→k∈S) (hd:∀ k,(T k).isSome=(F k).isSome):rs S T=T:=by
  funext k
  unfold rs
  split
  · rfl
  · rename_i hk
    cases hT:T k with
    | none=>rfl
    | some v =>
      have:=hd k
      rw [hT] at this
      obtain ⟨u,hu⟩:=Option.isSome_iff_exists.1 this.symm
      exact absurd (h k u hu) hk
variable {res:ν→τ→HProp} {F G:κ→Option ν} {T:κ→Option τ} {S:List κ}
variable {w0:World} {ds:List Deferred} {n:Nat} {e:Env} {Γ Γ':List HProp} {X:Act→World→Prop}
theorem s_rest_takeF (k:κ) {v:ν} (tk:Take Γ (rest res F T S) Γ') (hk:k ∉ S) (hF:F k=some v) (k1:∀ t,T k=some t→Le (St w0 ds n e (res v t::rest res F T (k::S)::Γ')) X):Le (St w0 ds n e Γ) X:=fun a w s=>by
  cases hT:T k with
  | none =>
    obtain ⟨hv,-⟩:=rest_miss hk hT (tk _ s.heap)
    rw [hF] at hv;cases hv
  | some t =>
    obtain ⟨v',hv,s1⟩:=rest_take hk hT (tk _ s.heap)
    rw [hF] at hv;cases hv
    exact k1 t hT a w ⟨s.defers,s.size,s.env,s1,s.amb⟩
theorem s_rest_dom (tk:Take Γ (rest res F T []) Γ') (k1:(∀ k,(T k).isSome=(F k).isSome)→Le (St w0 ds n e (rest res F T []::Γ')) X):Le (St w0 ds n e Γ) X:=fun a w s=>by
  have s0:=tk _ s.heap
  refine k1 (fun k=>?_) a w ⟨s.defers,s.size,s.env,s0,s.amb⟩
  cases hT:T k with
  | none=>obtain ⟨hv,-⟩:=rest_miss (k:=k) (by simp) hT s0;rw [hv];rfl
  | some t=>obtain ⟨v,hv,-⟩:=rest_take (k:=k) (by simp) hT s0;rw [hv];rfl
theorem s_rest_next (k:κ) {v:ν} {t:τ} (tk:Takes Γ [res v t,rest res (rs S G) (rs S T) []] Γ') (hk:k ∉ S) (ht:T k=some t) (k1:Le (St w0 ds n e (rest res (rs (S++[k]) (upd G k (some v))) (rs (S++[k]) T) []::Γ')) X):Le (St w0 ds n e Γ) X:=cQ (fun h s=>by
  obtain ⟨h1,l1,a1,s1⟩:=tk h s
  obtain ⟨-,s2⟩:=rest_miss (k:=k) (by simp) (by simp [rs,hk]) s1
  refine rest_put (k:=k) (by simp) ?_ (fun q hq _=>?_) ?_ (fun q hq _=>?_) ⟨h1,l1,a1,s2⟩
  · simp [rs,upd]
  · simp [rs,upd,hq]
  · simp [rs,ht]
  · simp [rs,hq]) k1
end
theorem rs_noF {κ τ:Type} [DecidableEq κ] (T:κ→Option τ):∀ k,rs ([]:List κ) T k=none:=fun k=>by simp [rs]
end Go.Ab.Mc
set_option linter.unusedVariables false
set_option linter.unusedSimpArgs false
namespace Go.Ab
open Go
/-- A block's head: so many cells, none frozen. -/
def headP (b n:Nat):HProp:=fun h=>∃ t,h (b,none)=some (.inr (.inr (t,n,0,0)))
theorem Sat.newCellsH {Γ:List HProp} {w:World} (s:Sat Γ (lh w)) (c:Array Value) (t:TypeId):Sat (cells w.heap.size 0 c.toList::headP w.heap.size c.size::Γ) (lh (w.alloc (.cells c t))):=by
  have hn:lh (w.alloc (.cells c t)) (w.heap.size,none)=some (.inr (.inr (t,c.size,0,0))):=by simp only [lh,heap_alloc_same];rfl
  have s1:Sat (headP w.heap.size c.size::Γ) (fun l=>if l=(w.heap.size,none) then some (.inr (.inr (t,c.size,0,0))) else lh w l):=by
    refine s.grown (h1:=fun l=>if l=(w.heap.size,none) then some (.inr (.inr (t,c.size,0,0))) else none) ⟨t,by simp⟩ ?_ ?_ ?_
    · intro l v e;dsimp only at e ⊢;split at e
      · rename_i h;rw [if_pos h];exact e
      · cases e
    · intro l v e;show (if l=(w.heap.size,none) then _ else lh w l)=some v;split
      · rename_i h;subst h;rw [lh_none_of_ge (Nat.le_refl _)] at e;cases e
      · exact e
    · intro l v e;split at e
      · rename_i h;subst h;exact lh_none_of_ge (Nat.le_refl _) _
      · cases e
  refine s1.grown (h1:=fun l=>match l with | (b,some o)=>if b=w.heap.size then (c[o]?).map fun v=>.inl (v,false) else none | _=>none) ?_ ?_ ?_ ?_
  · intro i v hv
    simp only [Zd,if_true]
    rw [Array.getElem?_toList] at hv
    simp [hv]
  · rintro ⟨b,x⟩ v e
    cases x with
    | none=>cases e
    | some o =>
      simp only at e
      split at e
      · rename_i hb;subst hb
        simp only [lh,heap_alloc_same,lhC]
        cases hc:c[o]? with
        | none=>simp [hc] at e
        | some u=>simp [hc] at e;subst e;simp
      · cases e
  · intro l v e
    dsimp only at e
    split at e
    · rename_i h;subst h;rw [hn];exact e
    · exact lh_alloc_le w _ l v e
  · rintro ⟨b,x⟩ v e
    cases x with
    | none=>cases e
    | some o =>
      simp only at e
      split at e
      · rename_i hb;subst hb;simp [lh_none_of_ge (Nat.le_refl _)]
      · cases e
section
variable {P:Program}
theorem run_sameAddr_fresh {a b:Addr} {ca cb:Array Value} {ta tb:TypeId} {fb:Nat × Nat} (w:World) (hne:a.block≠b.block) (ha:w.heap[a.block]?=some (.cells ca ta (0,0))) (hb:w.heap[b.block]?=some (.cells cb tb fb)) (hc:cb.size≠0) :
    (sameAddr a b).run P w=.ok false w:=by
  obtain ⟨lo,hi⟩:=fb
  by_cases h1:lo≤b.off∧b.off < hi <;> by_cases h2:lo≤cb.size∧cb.size < hi <;>
  simp [sameAddr,hne,World.frozen?,ha,hb,noView,viewAt,World.shape?,mayBeOne,stringish,h1,h2,hc]
theorem run_eql_fresh {tp te:TypeId} {j:TypeInfo} {a b:Addr} {ca cb:Array Value} {ta tb:TypeId} {fb:Nat × Nat} (w:World) (hp:P.underlying tp=some (.pointer te)) (hte:P.info? te=some j) (hsz:j.size≠0)
    (hne:a.block≠b.block) (ha:w.heap[a.block]?=some (.cells ca ta (0,0))) (hb:w.heap[b.block]?=some (.cells cb tb fb)) (hc:cb.size≠0) :
    (binOp .eql tp (.pointer (some a)) (.pointer (some b))).run P w=.ok (.bool false) w:=by
  have h:∀ d:Nat,(Op.equalIn (d+1) tp (.pointer (some a)) (.pointer (some b))).run P w=.ok false w:=fun d=>by
    simp [Op.equalIn,run_underlying hp,sizeOf,typeInfo,hte,hsz,run_sameAddr_fresh w hne ha hb hc]
  simp only [binOp]
  simp [Op.equal,Op.maxDepth,h 9999]
end
section
variable {P:Program} {r:Option Nat} {w0:World} {ds:List Deferred} {n:Nat} {e:Env} {Γ:List HProp} {K:Act→World→Prop} {l:List Oper} {i:Nat} {t:RT} {fl:List Nat}
variable {d:Nat} {ty:TypeId} {pos:String} {af:Array Edge} {g:Option (Nat × Bool)}
theorem l_boxH (m:Nat) {T:TypeId} {x:Operand} {v:Value} {us:List Value} (ho:nthO l i=some ⟨some d,.box T x,ty,pos,af,g⟩) (hg:gd l e g=some true) (hn:Nat.blt d n=true) (hx:ev e x=some v) (hv:v.cells.toList=us) (hm:us.length=m)
    (k:∀ b,Le (St w0 ds n ((d,.pointer (some ⟨b,0,none⟩))::e) (cells b 0 us::headP b m::Γ)) (AG P r l.toArray fl (wpRT P r l.toArray K t))):Le (St w0 ds n e Γ) (wpRT P r l.toArray K (.l i fl t)) :=
  l_gen ho hg (fun _ h=>by cases h) (fun a w s=>by
    have hr:(execOp a.eval ⟨some d,.box T x,ty,pos,af,g⟩).run P w=.ok (.value (.pointer (some ⟨w.heap.size,0,none⟩))) (w.alloc (.cells v.cells T)):=by
      simp [execOp,s.ev hx,Instr.box,newVar,newRow]
    rw [hr]
    subst hv hm
    have s':=s.heap.newCellsH v.cells T
    rw [← Array.length_toList] at s'
    exact k _ _ _ ((s.world s' ⟨rfl,rfl,rfl,by simp⟩).put hn))
/-- Two pointers, the first to a fresh block, the second to another one. -/
theorem l_eqC {tx tz:TypeId} {x y:Operand} {ao bo:Option Addr} {E:TypeId} {j:TypeInfo} (ho:nthO l i=some ⟨some d,.binOp .eql tx x y tz,ty,pos,af,g⟩) (hg:gd l e g=some true) (hn:Nat.blt d n=true) (hx:ev e x=some (.pointer ao)) (hy:ev e y=some (.pointer bo))
    (hu:P.underlying tx=some (.pointer E)) (hi:P.info? E=some j) (hj:j.size≠0)
    (hh:∀ h,Sat Γ h→∃ a b m u fz,ao=some ⟨a,0,none⟩∧bo=some ⟨b,0,none⟩∧a≠b∧(∃ t,h (a,none)=some (.inr (.inr (t,m+1,0,0))))∧h (b,some 0)=some (.inl (u,fz)))
    (k:Le (St w0 ds n ((d,.bool false)::e) Γ) (AG P r l.toArray fl (wpRT P r l.toArray K t))):Le (St w0 ds n e Γ) (wpRT P r l.toArray K (.l i fl t)) :=
  l_gen ho hg (fun _ h=>by cases h) (fun a w s=>by
    obtain ⟨a',b',m,u,fz,rfl,rfl,hab,⟨t,h1⟩,h2⟩:=hh _ s.heap
    have ha:∃ c,w.heap[a']?=some (.cells c t (0,0))∧c.size=m+1:=by
      simp only [lh,lhO] at h1
      split at h1
      · rename_i c t' lo hi e9
        simp only [Option.some.injEq,Sum.inr.injEq,Prod.mk.injEq] at h1
        obtain ⟨rfl,h3,rfl,rfl⟩:=h1
        exact ⟨c,e9,h3⟩
      · cases h1
      · cases h1
    have hb:∃ c t f,w.heap[b']?=some (.cells c t f)∧c.size≠0:=by
      simp only [lh,lhC] at h2
      split at h2
      · rename_i c t' lo hi e9
        refine ⟨c,t',_,e9,fun h0=>?_⟩
        rw [Array.getElem?_eq_none Om] at h2;cases h2
      · cases h2
    obtain ⟨c,ha,hc⟩:=ha
    obtain ⟨c2,t2,f2,hb,hc2⟩:=hb
    have hr:(execOp a.eval ⟨some d,.binOp .eql tx x y tz,ty,pos,af,g⟩).run P w=.ok (.value (.bool false)) w:=by
      simp only [execOp,s.ev hx,s.ev hy,eqGuard,Sem.run_bind]
      simp [run_eql_fresh (P:=P) (a:=⟨a',0,none⟩) (b:=⟨b',0,none⟩) w hu hi hj hab ha hb hc2]
    rw [hr]
    exact k _ _ (s.put hn))
end
end Go.Ab
set_option linter.unusedVariables false
set_option linter.unusedSimpArgs false
set_option maxRecDepth 100000
namespace Go.Ab.Rv
open Go Go.Proofs Go.Ab Go.Ab.Fe Go.Ab.Vc Go.Ab.Dj
open Go.Ab.Mc (ov rs ov_nil rs_nil ov_next rs_next ov_all rs_all nodup_snoc s_rest_takeF s_rest_dom s_rest_next rs_noF)
theorem mclone_spec (m:Nat) (F:Int→Option (Option Addr)):Spec Tryz.prog 110 [.map (some m)] [mapO ekZ evA m F] (fun (r:Nat)=>.map (some r)) (fun r=>True) (fun r=>[mapO ekZ evA r F,mapO ekZ evA m F]):=by
 refine kQ (n:=9) Tryz.func110 rfl rfl rfl ?_
 intro Γ w0
 simp only [argE,Ca,Na,Zd,Nat.reduceAdd]
 refine qL (qC (.q 0 (.done)) Kr ?_)
 refine qS rfl rfl rfl rfl (qR (qQ (qL (qL (qC (.q 0 (.q 1 (.done))) Kr ?_)))))
 refine qK rfl rfl rfl rfl (q_eq_nilm rfl rfl rfl rfl υ'84 ?_)
 refine kB 4 rfl (v':=.bool false) rfl ?_
 refine qR (qQ (kZ rfl ?_))
 refine qF (qQ (qL (qC (.q 0 (.q 1 ((.l 2 [] ((.l 3 [] (.q 4 (.done)))))))) Kr ?_)))
 refine qK rfl rfl rfl rfl (q_iface rfl rfl rfl rfl υ'84 ?_)
 refine l_mapClone (ek:=ekZ) (ev1:=evA) (F:=F) (m:=m) rfl rfl rfl rfl Tryz.func111 rfl rfl Kr Kr Tk ?_
 intro mq
 refine qV (l_assert rfl rfl rfl rfl υ'84 ?_)
 refine qV (qS rfl rfl rfl rfl (qR (qW [2] (e':=[(2,_)]) rfl ?_)))
 refine qQ (qJ (kD rfl rfl (mq) (by first | rfl | (first | rfl | (congr 1;done) | (congr 1 <;> first | rfl | omega | (simp;done) | (simp;omega)))) (by trivial) ?_))
 exact Tf
theorem mcloneh_spec (m:Nat) (F:Int × Int→Option (Option Addr × Int)):Spec Tryz.prog 88 [.map (some m)] [mapO ek2 evH m F] (fun (r:Nat)=>.map (some r)) (fun r=>True) (fun r=>[mapO ek2 evH r F,mapO ek2 evH m F]):=by
 refine kQ (n:=9) Tryz.func88 rfl rfl rfl ?_
 intro Γ w0
 simp only [argE,Ca,Na,Zd,Nat.reduceAdd]
 refine qL (qC (.q 0 (.done)) Kr ?_)
 refine qS rfl rfl rfl rfl (qR (qQ (qL (qL (qC (.q 0 (.q 1 (.done))) Kr ?_)))))
 refine qK rfl rfl rfl rfl (q_eq_nilm rfl rfl rfl rfl υ'85 ?_)
 refine kB 4 rfl (v':=.bool false) rfl ?_
 refine qR (qQ (kZ rfl ?_))
 refine qF (qQ (qL (qC (.q 0 (.q 1 ((.l 2 [] ((.l 3 [] (.q 4 (.done)))))))) Kr ?_)))
 refine qK rfl rfl rfl rfl (q_iface rfl rfl rfl rfl υ'85 ?_)
 refine l_mapClone (ek:=ek2) (ev1:=evH) (F:=F) (m:=m) rfl rfl rfl rfl Tryz.func111 rfl rfl Kr Kr Tk ?_
 intro mq
 refine qV (l_assert rfl rfl rfl rfl υ'85 ?_)
 refine qV (qS rfl rfl rfl rfl (qR (qW [2] (e':=[(2,_)]) rfl ?_)))
 refine qQ (qJ (kD rfl rfl (mq) (by first | rfl | (first | rfl | (congr 1;done) | (congr 1 <;> first | rfl | omega | (simp;done) | (simp;omega)))) (by trivial) ?_))
 exact Tf
theorem dcopies_spec (m:Nat) (F:Int→Option (Option Addr)) (T:Int→Option (List Int)) (hT:∀ k l,T k=some l→CV l):Spec Tryz.prog 87 [.map (some m)] [mapO ekZ evA m F,rest vecA F T []] (fun (r:Nat × (Int→Option (Option Addr)))=>.map (some r.1)) (fun r=>True) (fun r=>[mapO ekZ evA m F,rest vecA F T [],mapO ekZ evA r.1 r.2,rest vecA r.2 T []]):=by
 refine kQ (n:=20) Tryz.func87 rfl rfl rfl ?_
 intro Γ w0
 simp only [argE,Ca,Na,Zd,Nat.reduceAdd]
 refine qL (qC (.q 0 (.done)) Kr ?_)
 refine qS rfl rfl rfl rfl (qR (qQ (qL (qC (.q 0 ((.l 1 [] (.q 2 (.done))))) Kr ?_))))
 refine qK rfl rfl rfl rfl ?_
 have sp_1:=mclone_spec m F
 refine qM rfl rfl rfl rfl rfl rfl Tryz.call110 (sp_1) Ts ?_
 rintro mq -
 try simp only [Ca,Na]
 refine qV (qS rfl rfl rfl rfl (qR (qQ (qL (qL (qC (.q 0 ((.l 1 [] (.done)))) Kr ?_))))))
 refine qK rfl rfl rfl rfl (l_range (ek:=ekZ) (ev1:=evA) (F:=F) (m:=m) rfl rfl rfl rfl υ'84 Tk ?_)
 intro rr N_rr
 refine qV (qR (qW [3,9] (e':=[(3,_),(9,_)]) rfl ?_))
 refine qQ (kC (s_rest_new (res:=vecA) (rs ([]:List Int) (noF:Int→Option (Option Addr))) (rs ([]:List Int) T) (rs_noF _) (rs_noF _) ?_))
 refine cH (α:=List Int × (Int→Option (Option Addr))) (fun (x_:List Int × (Int→Option (Option Addr)))=>match x_ with | (vis,G)=>vis.Nodup) (fun (x_:List Int × (Int→Option (Option Addr)))=>match x_ with | (vis,G)=>[]) (fun (x_:List Int × (Int→Option (Option Addr)))=>match x_ with | (vis,G)=>[rng ekZ evA rr m F vis N_rr,mapO ekZ evA mq (ov vis G F),rest vecA F T [],rest vecA (rs vis G) (rs vis T) []]) (fun (x_:List Int × (Int→Option (Option Addr)))=>match x_ with | (vis,G)=>N_rr - vis.length) [3,9] (er:=[(3,_),(9,_)]) rfl (([]:List Int),(noF:Int→Option (Option Addr))) ?_ (by exact trivial) (by (try dsimp only);rw [ov_nil];(repeat ((with_reducible apply Z2);focus (first | (with_reducible (repeat (first | exact Z0 | apply Z1));done) | (repeat (first | exact Z0 | apply Z1)))));exact Z3) ?_
 · exact List.nodup_nil
 rintro ⟨vis,G⟩ hnd
 try simp only [Ca,Na]
 refine qL (qC ((.l 0 [] (.q 1 (.done)))) Kr ?_)
 refine l_next (ek:=ekZ) (ev1:=evA) (F:=F) (m:=m) (vis:=vis) (N:=N_rr) rfl rfl rfl rfl (by assumption) Tk ?_ ?_
 ·
  intro hall hex
  refine qV (kY rfl rfl rfl rfl rfl (qR (qQ (qL (kZ rfl ?_)))))
  refine cW (qY (qY (kK (qQ (qL (qC (.q 0 (.q 1 (.done))) Kr ?_))))))
  refine qK rfl rfl rfl rfl (qS rfl rfl rfl rfl (qR (qW [2] (e':=[(2,_)]) rfl ?_)))
  refine qQ (qJ (s_rest_dom (F:=F) (T:=T) Tk fun hdom=>?_))
  rw [rs_all hall hdom,ov_all hall]
  refine kD rfl rfl ((mq,rs vis G)) (by first | rfl | (first | rfl | (congr 1;done) | (congr 1 <;> first | rfl | omega | (simp;done) | (simp;omega)))) (by trivial) ?_
  exact Tf
 intro k_ v_ hkv hnk hltN
 refine qV (s_rest_takeF (F:=F) (T:=T) (S:=[]) k_ Tk (by simp) hkv fun l ht=>?_)
 refine s_vec Tk fun cb ca cc hcb=>?_
 subst hcb
 have hll:=(hT _ _ ht).len
 refine kY rfl rfl rfl rfl rfl (qR (qQ (qL (cK rfl ?_))))
 refine qF (qQ (kC (qL (qC (.q 0 (.q 1 (.q 2 (.q 3 (.q 4 (.done)))))) Kr ?_))))
 refine q_entry (ek:=ekZ) (ev1:=evA) (F:=F) (m:=m) (vis:=vis) (N:=N_rr) (k:=k_) (v:=(some ⟨cb,0,none⟩)) rfl rfl rfl rfl hkv Tk ?_
 refine kY rfl rfl rfl rfl rfl (kY rfl rfl rfl rfl rfl (kB 14 rfl (v':=.pointer (some ⟨cb,0,none⟩)) (by rfl) ?_))
 refine qS rfl rfl rfl rfl (qS rfl rfl rfl rfl (qR (qW [3,4,5,9] (e':=[(3,_),(4,_),(5,_),(9,_)]) rfl ?_)))
 refine qQ (qC (.q 0 (.q 1 (.q 2 ((.l 3 [] ((.l 4 [] (.done)))))))) Kr ?_)
 refine qK rfl rfl rfl rfl (qK rfl rfl rfl rfl (qK rfl rfl rfl rfl ?_))
 have sp_2:=Vc.copy_spec cb l ca l.length cc (by rfl) Om
 refine qM rfl rfl rfl rfl rfl rfl κ'42 (sp_2) Ts ?_
 rintro ⟨qb,qa,qc⟩ -
 try simp only [Ca,Na]
 refine qV (sM (ek:=ekZ) (ev1:=evA) (F:=(ov vis G F)) (m:=mq) (k:=k_) (v:=(some ⟨qb,0,none⟩:Option Addr)) (by first | exact .inl rfl | exact .inr rfl) rfl rfl rfl rfl υ'84 (cM υ'3) Tk ?_)
 refine qV (qR (qW [3,9] (e':=[(3,_),(9,_)]) rfl ?_))
 refine kX (qQ (s_vecF cb ca cc l Ts ?_))
 refine cN (F:=F) (T:=T) (S:=[]) k_ F T Ts (by simp) hkv (fun _ _ _=>rfl) ht (fun _ _ _=>rfl) ?_
 refine s_vecF qb qa qc l Ts ?_
 refine s_rest_next (G:=G) (T:=T) (S:=vis) k_ Ts hnk ht ?_
 rw [ov_next]
 refine kJ (x:=(vis,G)) ((vis++[k_],upd G k_ (some (some ⟨qb,0,none⟩)))) ?_ ?_ ?_ ?_
 · try dsimp only
   exact nodup_snoc hnd hnk
 · show N_rr - (vis++[k_]).length < N_rr - vis.length;rw [List.length_append];simp;omega
 · exact ⟨rfl,rfl,trivial⟩
 · (try simp only [Ca,Na]);exact Tf
theorem dvcopy_spec (pa:Option Addr) (pc:Nat) (po:Option Addr) (poc b:Nat) (x:VS) (hx:VInv x):Spec Tryz.prog 41 [.pointer (some ⟨b,0,none⟩)] [vsR pa pc po poc b x] (fun (r:Nat)=>.pointer (some ⟨r,0,none⟩)) (fun r=>True) (fun r=>[vsR pa pc po poc b x,vsR pa pc po poc r x]):=by
 refine kQ (n:=58) Tryz.func41 rfl rfl rfl ?_
 intro Γ w0
 simp only [argE,Ca,Na,Zd,Nat.reduceAdd]
 refine qL (qC (.q 0 (.done)) Kr ?_)
 refine qS rfl rfl rfl rfl (qR (qQ (qL (cS (A:=vsR pa pc po poc b x) Tk ?_))))
 refine vs_open fun cb m1 m2 m3 m4 F1 F2 F3 F4=>?_
 refine kL rfl (.q 0 (.q 1 (.q 2 (.q 3 (.q 5 (.q 6 (.q 7 (.q 8 (.q 9 (.q 10 (.q 11 (.q 12 (.q 14 (.q 15 (.q 16 (.q 17 (.q 19 (.q 20 (.q 21 (.q 22 (.q 24 (.q 25 (.q 26 (.q 27 ((.l 4 [8,12,17,22,27] ((.l 13 [8,17,22,27] ((.l 18 [8,22,27] ((.l 23 [8,27] ((.l 28 [8] (.q 29 ((.l 30 [] (.q 31 (.done))))))))))))))))))))))))))))))))))))))) Kr ?_
 refine qK rfl rfl rfl rfl (qX rfl rfl rfl rfl (qG (k:=0) rfl rfl rfl rfl υ'87 rfl ζ'83 rfl ?_))
 refine qP (j:=0) rfl rfl rfl rfl α'83 Tk Az (by rfl) ?_
 refine qK rfl rfl rfl rfl (qX rfl rfl rfl rfl (qG (k:=1) rfl rfl rfl rfl υ'87 rfl ζ'22 rfl ?_))
 refine qP (j:=1) rfl rfl rfl rfl α'22 Tk Az (by rfl) ?_
 refine qK rfl rfl rfl rfl (qX rfl rfl rfl rfl (qG (k:=2) rfl rfl rfl rfl υ'87 rfl ζ'84 rfl ?_))
 refine qP (j:=2) rfl rfl rfl rfl α'84 Tk Az (by rfl) ?_
 refine qK rfl rfl rfl rfl (qX rfl rfl rfl rfl (qG (k:=3) rfl rfl rfl rfl υ'87 rfl ζ'84 rfl ?_))
 refine qP (j:=3) rfl rfl rfl rfl α'84 Tk Az (by rfl) ?_
 refine qK rfl rfl rfl rfl (qX rfl rfl rfl rfl (qG (k:=4) rfl rfl rfl rfl υ'87 rfl ζ'84 rfl ?_))
 refine qP (j:=4) rfl rfl rfl rfl α'84 Tk Az (by rfl) ?_
 refine qK rfl rfl rfl rfl (qX rfl rfl rfl rfl (qG (k:=5) rfl rfl rfl rfl υ'87 rfl ζ'85 rfl ?_))
 refine qP (j:=5) rfl rfl rfl rfl α'85 Tk Az (by rfl) ?_
 have sp_1:=Fe.copy_spec pa pc cb x.ck hx.ck
 refine qM rfl rfl rfl rfl rfl rfl Tryz.call86 (sp_1) Ts ?_
 rintro cq -
 try simp only [Ca,Na]
 refine qH (q:=1) rfl rfl rfl α'22 Tk Az (by rfl) ?_
 refine qH (q:=2) rfl rfl rfl α'84 Tk Az (by rfl) ?_
 refine qH (q:=3) rfl rfl rfl α'84 Tk Az (by rfl) ?_
 refine qH (q:=4) rfl rfl rfl α'84 Tk Az (by rfl) ?_
 refine qH (q:=5) rfl rfl rfl α'85 Tk Az (by rfl) ?_
 refine qV ?_
 have sp_2:=dcopies_spec m1 F1 x.th hx.thc
 refine qM rfl rfl rfl rfl rfl rfl Tryz.call87 (sp_2) Ts ?_
 rintro ⟨n1,Gn1⟩ -
 try simp only [Ca,Na]
 refine qH (q:=1) rfl rfl rfl α'22 Tk Az (by rfl) ?_
 refine qH (q:=3) rfl rfl rfl α'84 Tk Az (by rfl) ?_
 refine qH (q:=4) rfl rfl rfl α'84 Tk Az (by rfl) ?_
 refine qH (q:=5) rfl rfl rfl α'85 Tk Az (by rfl) ?_
 refine qV ?_
 have sp_3:=dcopies_spec m2 F2 x.lk hx.lkc
 refine qM rfl rfl rfl rfl rfl rfl Tryz.call87 (sp_3) Ts ?_
 rintro ⟨n2,Gn2⟩ -
 try simp only [Ca,Na]
 refine qH (q:=1) rfl rfl rfl α'22 Tk Az (by rfl) ?_
 refine qH (q:=4) rfl rfl rfl α'84 Tk Az (by rfl) ?_
 refine qH (q:=5) rfl rfl rfl α'85 Tk Az (by rfl) ?_
 refine qV ?_
 have sp_4:=dcopies_spec m3 F3 x.vo hx.voc
 refine qM rfl rfl rfl rfl rfl rfl Tryz.call87 (sp_4) Ts ?_
 rintro ⟨n3,Gn3⟩ -
 try simp only [Ca,Na]
 refine qH (q:=1) rfl rfl rfl α'22 Tk Az (by rfl) ?_
 refine qH (q:=5) rfl rfl rfl α'85 Tk Az (by rfl) ?_
 refine qV ?_
 have sp_5:=mcloneh_spec m4 F4
 refine qM rfl rfl rfl rfl rfl rfl Tryz.call88 (sp_5) Ts ?_
 rintro n4 -
 try simp only [Ca,Na]
 refine qH (q:=1) rfl rfl rfl α'22 Tk Az (by rfl) ?_
 refine qV (cC rfl rfl rfl rfl (vs:=[_,_,_,_,_,_]) (kV υ'87 Tryz.zeroValue87 (ps:=[(0,1),(1,1),(2,1),(3,1),(4,1),(5,1)]) ⟨rfl,ζ'83,rfl,ζ'22,rfl,ζ'84,rfl,ζ'84,rfl,ζ'84,rfl,ζ'85,trivial⟩ rfl) ?_)
 refine sP rfl rfl rfl rfl (us:=[_,_,_,_,_,_]) rfl ?_
 intro b36
 refine qV (qS rfl rfl rfl rfl (qR (qW [0,3] (e':=[(0,_),(3,_)]) rfl ?_)))
 refine qQ (qL (qL (qC (.q 0 (.q 1 (.q 2 (.q 3 ((.l 4 [] (.done))))))) Kr ?_)))
 refine qK rfl rfl rfl rfl (qX rfl rfl rfl rfl (qG (k:=5) rfl rfl rfl rfl υ'87 rfl ζ'85 rfl ?_))
 refine qP (j:=5) rfl rfl rfl rfl α'85 Tk Az (by rfl) ?_
 refine l_range (ek:=ek2) (ev1:=evH) (F:=F4) (m:=m4) rfl rfl rfl rfl υ'85 Tk ?_
 intro rr N_rr
 refine qV (qR (qW [3,41] (e':=[(3,_),(41,_)]) rfl ?_))
 refine qQ (kC (s_rest_new (res:=heldA) (rs ([]:List (Int × Int)) (noF:Int × Int→Option (Option Addr × Int))) (rs ([]:List (Int × Int)) x.rd) (rs_noF _) (rs_noF _) ?_))
 refine cH (α:=List (Int × Int) × (Int × Int→Option (Option Addr × Int))) (fun (x_:List (Int × Int) × (Int × Int→Option (Option Addr × Int)))=>match x_ with | (vis,G)=>vis.Nodup) (fun (x_:List (Int × Int) × (Int × Int→Option (Option Addr × Int)))=>match x_ with | (vis,G)=>[]) (fun (x_:List (Int × Int) × (Int × Int→Option (Option Addr × Int)))=>match x_ with | (vis,G)=>[rng ek2 evH rr m4 F4 vis N_rr,mapO ek2 evH n4 (ov vis G F4),rest heldA F4 x.rd [],rest heldA (rs vis G) (rs vis x.rd) []]) (fun (x_:List (Int × Int) × (Int × Int→Option (Option Addr × Int)))=>match x_ with | (vis,G)=>N_rr - vis.length) [3,41] (er:=[(3,_),(41,_)]) rfl (([]:List (Int × Int)),(noF:Int × Int→Option (Option Addr × Int))) ?_ (by exact trivial) (by (try dsimp only);rw [ov_nil];(repeat ((with_reducible apply Z2);focus (first | (with_reducible (repeat (first | exact Z0 | apply Z1));done) | (repeat (first | exact Z0 | apply Z1)))));exact Z3) ?_
 · exact List.nodup_nil
 rintro ⟨vis,G⟩ hnd
 try simp only [Ca,Na]
 refine qL (qC ((.l 0 [] (.q 1 (.done)))) Kr ?_)
 refine l_next (ek:=ek2) (ev1:=evH) (F:=F4) (m:=m4) (vis:=vis) (N:=N_rr) rfl rfl rfl rfl (by assumption) Tk ?_ ?_
 ·
  intro hall hex
  refine qV (kY rfl rfl rfl rfl rfl (qR (qQ (qL (kZ rfl ?_)))))
  refine cW (qY (qY (kK (qQ (qL (qC (.q 0 (.q 1 (.done))) Kr ?_))))))
  refine qK rfl rfl rfl rfl (qS rfl rfl rfl rfl (qR (qW [2] (e':=[(2,_)]) rfl ?_)))
  refine qQ (qJ (s_rest_dom (F:=F4) (T:=x.rd) Tk fun hdom=>?_))
  rw [rs_all hall hdom,ov_all hall]
  refine vs_fold (b:=b) x (pa:=pa) (pc:=pc) (po:=po) (poc:=poc) (cb:=cb) (m1:=m1) (m2:=m2) (m3:=m3) (m4:=m4) Ts (by rfl) (by rfl) ?_
  refine vs_fold (b:=b36) x (pa:=pa) (pc:=pc) (po:=po) (poc:=poc) (cb:=cq) (m1:=n1) (m2:=n2) (m3:=n3) (m4:=n4) Ts (by rfl) (by rfl) ?_
  refine kD rfl rfl (b36) (by first | rfl | (first | rfl | (congr 1;done) | (congr 1 <;> first | rfl | omega | (simp;done) | (simp;omega)))) (by trivial) ?_
  exact Tf
 intro k_ v_ hkv hnk hltN
 refine qV (s_rest_takeF (F:=F4) (T:=x.rd) (S:=[]) k_ Tk (by simp) hkv fun p ht=>?_)
 obtain ⟨l,z⟩:=p
 obtain ⟨va_,vz_⟩:=v_
 refine s_held Tk fun hvz=>?_
 simp only at hvz
 subst hvz
 refine s_vec Tk fun kb ka kc hkb=>?_
 simp only at hkb
 subst hkb
 try dsimp only
 have hll:=(hx.rdc _ _ ht).len
 simp only at hll
 refine kY rfl rfl rfl rfl rfl (qR (qQ (qL (cK rfl ?_))))
 refine qF (qQ (kC (qL (qC (.q 0 (.q 1 (.q 2 ((.l 3 [] ((.l 4 [] ((.l 5 [] ((.l 6 [] (.done)))))))))))) Kr ?_))))
 refine q_entry (ek:=ek2) (ev1:=evH) (F:=F4) (m:=m4) (vis:=vis) (N:=N_rr) (k:=k_) (v:=(some ⟨kb,0,none⟩,vz_)) rfl rfl rfl rfl hkv Tk ?_
 refine kY rfl rfl rfl rfl rfl (kY rfl rfl rfl rfl rfl (sD rfl rfl rfl ω'145 (zs:=[.int .i64 0,.int .i64 0]) rfl ?_))
 intro b4
 refine qV (sD rfl rfl rfl ω'147 (zs:=[.pointer none,.int .i64 0]) rfl ?_)
 intro b5
 refine qV (kH (j:=0) rfl rfl rfl rfl ζ'145 (us:=[_,_]) rfl rfl rfl Tk Az (by first | decide | (simp;done) | omega) ?_)
 simp only [setL,List.set]
 refine qV (kH (j:=0) rfl rfl rfl rfl ζ'147 (us:=[_,_]) rfl rfl rfl Tk Az (by first | decide | (simp;done) | omega) ?_)
 simp only [setL,List.set]
 refine qV (qR (qW [3,4,5,41] (e':=[(3,_),(4,_),(5,_),(41,_)]) rfl ?_))
 refine qQ (qL (qC (.q 0 (.q 1 ((.l 2 [] (.q 3 ((.l 4 [] (.done)))))))) Kr ?_))
 refine qG (k:=0) rfl rfl rfl rfl υ'147 rfl ζ'79 rfl ?_
 refine qP (j:=0) rfl rfl rfl rfl α'79 Tk Az (by rfl) ?_
 refine kB 48 rfl (v':=.pointer (some ⟨kb,0,none⟩)) (by rfl) ?_
 have sp_6:=Vc.copy_spec kb l ka l.length kc (by rfl) Om
 refine qM rfl rfl rfl rfl rfl rfl κ'42 (sp_6) Ts ?_
 rintro ⟨qb,qa,qc⟩ -
 try simp only [Ca,Na]
 refine qV (qG (k:=0) rfl rfl rfl rfl υ'147 rfl ζ'79 rfl ?_)
 refine kH (j:=0) rfl rfl rfl rfl ζ'79 (us:=[_]) rfl rfl rfl Tk Az (by first | decide | (simp;done) | omega) ?_
 simp only [setL,List.set]
 refine qV (qR (qW [3,4,5,41] (e':=[(3,_),(4,_),(5,_),(41,_)]) rfl ?_))
 refine qQ (kL rfl (.q 0 (.q 1 (.q 2 (.q 3 (.q 4 (.q 5 ((.l 6 [] (.done))))))))) Kr ?_)
 refine qK rfl rfl rfl rfl (qX rfl rfl rfl rfl (qG (k:=5) rfl rfl rfl rfl υ'87 rfl ζ'85 rfl ?_))
 refine qP (j:=5) rfl rfl rfl rfl α'85 Tk Az (by rfl) ?_
 refine kG rfl rfl rfl rfl α'145 ζ'145 Tk 0 (us:=[_,_]) Az rfl rfl ?_
 refine kG rfl rfl rfl rfl Tryz.isAgg147 ζ'147 Tk 0 (us:=[_,_]) Az rfl rfl ?_
 refine sM (ek:=ek2) (ev1:=evH) (F:=(ov vis G F4)) (m:=n4) (k:=(k_.1,k_.2)) (v:=((some ⟨qb,0,none⟩:Option Addr),vz_)) (by first | exact .inl rfl | exact .inr rfl) rfl rfl rfl rfl υ'85 (keyOK_pair υ'145 rfl rfl rfl rfl υ'3 υ'3 α'3 α'3 Kr) Tk ?_
 refine qV (qR (qW [3,41] (e':=[(3,_),(41,_)]) rfl ?_))
 refine kX (qQ (s_vecF kb ka kc l Ts ?_))
 refine s_heldF (some ⟨kb,0,none⟩,vz_) (l,vz_) Tk rfl ?_
 refine cN (F:=F4) (T:=x.rd) (S:=[]) k_ F4 x.rd Ts (by simp) hkv (fun _ _ _=>rfl) ht (fun _ _ _=>rfl) ?_
 refine s_vecF qb qa qc l Ts ?_
 refine s_heldF (some ⟨qb,0,none⟩,vz_) (l,vz_) Tk rfl ?_
 refine s_rest_next (G:=G) (T:=x.rd) (S:=vis) k_ Ts hnk ht ?_
 rw [show ((k_.1,k_.2):Int × Int)=k_ from rfl,ov_next]
 refine kJ (x:=(vis,G)) ((vis++[k_],upd G k_ (some (some ⟨qb,0,none⟩,vz_)))) ?_ ?_ ?_ ?_
 · try dsimp only
   exact nodup_snoc hnd hnk
 · show N_rr - (vis++[k_]).length < N_rr - vis.length;rw [List.length_append];simp;omega
 · exact ⟨rfl,rfl,trivial⟩
 · (try simp only [Ca,Na]);exact Tf
theorem dcopy_spec (pa:Option Addr) (pc:Nat) (po:Option Addr) (poc b:Nat) (x:DS) (hx:DInv x):Spec Tryz.prog 20 [.pointer (some ⟨b,0,none⟩)] [dR pa pc po poc b x] (fun (r:Nat)=>.pointer (some ⟨r,0,none⟩)) (fun r=>True) (fun r=>[dR pa pc po poc b x,dR pa pc po poc r x,headP r 3]):=by
 refine kQ (n:=49) Tryz.func20 rfl rfl rfl ?_
 intro Γ w0
 simp only [argE,Ca,Na,Zd,Nat.reduceAdd]
 refine qL (qC (.q 0 (.done)) Kr ?_)
 refine qS rfl rfl rfl rfl (qR (qQ (qL (qL ?_))))
 have hva:=hx.v.ck.sh.va
 have hvl:=hx.len
 refine cS (A:=dR pa pc po poc b x) Tk ?_
 refine d_open fun vb va vc V hV=>?_
 refine qC (.q 0 ((.l 1 [] (.q 2 (.done))))) Kr ?_
 refine qK rfl rfl rfl rfl ?_
 have sp_1:=Dj.there_spec b vb (.slice va x.vs.length vc) (.int .i64 x.cost)
 refine qM rfl rfl rfl rfl rfl rfl κ'25 (sp_1) Ts ?_
 rintro ⟨⟩ -
 try simp only [Ca,Na]
 refine qV (sY rfl rfl rfl rfl ?_)
 refine kB 8 rfl (v':=.bool false) rfl ?_
 refine qR (qQ (kZ rfl ?_))
 refine qF (qQ (qL (kL rfl (.q 0 (.q 1 (.q 2 (.q 3 (.q 5 (.q 6 (.q 7 (.q 8 ((.l 4 [8] (.q 9 ((.l 10 [] (.q 11 (.done))))))))))))))) Kr ?_)))
 refine qK rfl rfl rfl rfl (qX rfl rfl rfl rfl (qG (k:=0) rfl rfl rfl rfl υ'43 rfl ζ'40 rfl ?_))
 refine qP (j:=0) rfl rfl rfl rfl α'40 Tk Az (by rfl) ?_
 refine qK rfl rfl rfl rfl (qX rfl rfl rfl rfl (qG (k:=2) rfl rfl rfl rfl υ'43 rfl ζ'3 rfl ?_))
 refine qP (j:=2) rfl rfl rfl rfl α'3 Tk Az (by rfl) ?_
 have sp_2:=dvcopy_spec pa pc po poc vb x.v hx.v
 refine qM rfl rfl rfl rfl rfl rfl Tryz.call41 (sp_2) Ts ?_
 rintro vq -
 try simp only [Ca,Na]
 refine qH (q:=2) rfl rfl rfl α'3 Tk Az (by rfl) ?_
 refine qV (cC rfl rfl rfl rfl (vs:=[_,_,_]) (kV υ'43 ω'43 (ps:=[(0,1),(1,1),(2,1)]) ⟨rfl,ζ'40,rfl,ζ'41,rfl,ζ'3,trivial⟩ rfl) ?_)
 refine l_boxH 3 rfl rfl rfl rfl (us:=[_,_,_]) rfl rfl ?_
 intro b19
 refine qV (qS rfl rfl rfl rfl (qR (qW [0,3] (e':=[(0,_),(3,_)]) rfl ?_)))
 refine qQ (qL (qL (qC (.q 0 (.q 1 (.q 2 (.q 3 (.q 4 (.q 5 (.done))))))) Kr ?_)))
 refine qK rfl rfl rfl rfl (qX rfl rfl rfl rfl (qG (k:=1) rfl rfl rfl rfl υ'43 rfl ζ'41 rfl ?_))
 refine qP (j:=1) rfl rfl rfl rfl α'41 Tk Az (by rfl) ?_
 refine cJ rfl rfl rfl rfl υ'41 ?_
 refine qK rfl rfl rfl rfl (qR (qW [3,23,24,25] (e':=[(3,_),(23,_),(24,_),(25,_)]) rfl ?_))
 refine qQ (kC (s_restL_nil (res:=varA) ?_))
 refine cQ (fun _ h=>sR (sz:=4) (enc:=encV) h) ?_
 refine cH (α:=Nat × List P4 × Option Addr × Nat) (fun (x_:Nat × List P4 × Option Addr × Nat)=>match x_ with | (k,GV,ga,gc)=>k≤x.vs.length∧(GV.length=k)) (fun (x_:Nat × List P4 × Option Addr × Nat)=>match x_ with | (k,GV,ga,gc)=>[(25,.int .i64 ((k:Nat):Int))]) (fun (x_:Nat × List P4 × Option Addr × Nat)=>match x_ with | (k,GV,ga,gc)=>[restL varA V x.vs [],restL varA GV (x.vs.take k) [],cells b19 0 [.pointer (some ⟨vq,0,none⟩),.slice ga k gc,.int .i64 x.cost],own 4 encV ga gc GV]) (fun (x_:Nat × List P4 × Option Addr × Nat)=>match x_ with | (k,GV,ga,gc)=>x.vs.length - k) [3,23,24] (er:=[(3,_),(23,_),(24,_)]) rfl (0,([]:List P4),none,0) ?_ (by exact ⟨rfl,trivial⟩) (by (try dsimp only);(try simp only [Ad,Zd]);(repeat ((with_reducible apply Z2);focus (first | (with_reducible (repeat (first | exact Z0 | apply Z1));done) | (repeat (first | exact Z0 | apply Z1)))));exact Z3) ?_
 · exact ⟨Nat.zero_le _,rfl⟩
 rintro ⟨k,GV,ga,gc⟩ ⟨hle_k,hGV⟩
 try simp only [Ca,Na]
 refine qL (qC (.q 0 (.done)) Kr ?_)
 refine qB rfl rfl rfl rfl rfl (cB _ _ _ _) ?_
 refine qR (qQ (qL ?_))
 refine qD rfl (fun hlt=>?_) (fun hlt=>?_)
 ·
  refine qF (qQ (qL (kC (qL ?_))))
  obtain ⟨w,hw⟩:=cR (l:=x.vs) (i:=k) Om
  obtain ⟨hw1_,hw2_⟩:=hx.vs w (List.mem_of_getElem? hw)
  have hw3_:=hw1_.len
  have hw4_:=hw2_.len
  refine cZ (res:=varA) (V:=V) (Y:=x.vs) (S:=[]) k Tk (by simp) hw fun v_ hv=>?_
  obtain ⟨va_,vb_,fl,fg⟩:=v_
  refine s_var Tk fun hf=>?_
  refine s_vec Tk fun rb ra rc hra_=>?_
  simp only at hra_
  subst hra_
  refine s_vec Td fun wb wa wc hwa_=>?_
  simp only at hwa_
  subst hwa_
  simp only at hf
  refine qC (.q 0 (.q 1 ((.l 2 [] ((.l 3 [] (.done))))))) Kr ?_
  refine kF (sz:=3) (k:=k) (enc:=encV) (xs:=V) rfl rfl rfl rfl rfl υ'41 ζ'82 hv (by first | rfl | omega) Om Tk ?_
  intro ib27 io27 ha27 hl27 hc27
  refine q_loadN_O (j:=0) (k':=k) (us:=[_,_,_,_]) (enc:=encV) (off:=io27) rfl rfl rfl rfl Tryz.isAgg82 ζ'82 ha27 encV_len hv Tk (by first | rfl | exact (Ad _).symm | omega) (by rfl) rfl ?_
  refine sD rfl rfl rfl ω'82 (zs:=[.pointer none,.pointer none,.int .i64 0,.bool false]) rfl ?_
  intro b5
  refine qV (kH (j:=0) rfl rfl rfl rfl ζ'82 (us:=[_,_,_,_]) rfl rfl rfl Tk Az (by first | decide | (simp;done) | omega) ?_)
  simp only [setL,List.set]
  refine qV (qR (qQ (qL (kL rfl (.q 0 (.q 1 (.q 3 (.q 4 ((.l 2 [4] (.q 6 ((.l 5 [] ((.l 7 [] (.q 8 ((.l 9 [] (.done))))))))))))))) Kr ?_))))
  refine qG (k:=0) rfl rfl rfl rfl υ'82 rfl ζ'79 rfl ?_
  refine qP (j:=0) rfl rfl rfl rfl α'79 Tk Az (by rfl) ?_
  refine qG (k:=1) rfl rfl rfl rfl υ'82 rfl ζ'79 rfl ?_
  refine qP (j:=1) rfl rfl rfl rfl α'79 Tk Az (by rfl) ?_
  have sp_3:=Vc.copy_spec rb w.1 ra w.1.length rc (by rfl) Om
  refine qM rfl rfl rfl rfl rfl rfl κ'42 (sp_3) Ts ?_
  rintro ⟨qb,qa,qc⟩ -
  try simp only [Ca,Na]
  refine qH (q:=1) rfl rfl rfl α'79 Tk Az (by rfl) ?_
  refine qV (qG (k:=0) rfl rfl rfl rfl υ'82 rfl ζ'79 rfl ?_)
  have sp_4:=Vc.copy_spec wb w.2.1 wa w.2.1.length wc (by rfl) Om
  refine qM rfl rfl rfl rfl rfl rfl κ'42 (sp_4) Ts ?_
  rintro ⟨yb,ya,yc⟩ -
  try simp only [Ca,Na]
  refine qV (kH (j:=0) rfl rfl rfl rfl ζ'79 (us:=[_]) rfl rfl rfl Tk Az (by first | decide | (simp;done) | omega) ?_)
  simp only [setL,List.set]
  refine qV (qG (k:=1) rfl rfl rfl rfl υ'82 rfl ζ'79 rfl ?_)
  refine kH (j:=1) rfl rfl rfl rfl ζ'79 (us:=[_]) rfl rfl rfl Tk Az (by first | decide | (simp;done) | omega) ?_
  simp only [setL,List.set]
  refine qV (qR (qW [3,5,23,24,25] (e':=[(3,_),(5,_),(23,_),(24,_),(25,_)]) rfl ?_))
  refine qQ (kL rfl (.q 0 (.q 1 (.q 2 (.q 3 (.q 4 (.q 5 ((.l 6 [4] ((.l 7 [] (.q 8 (.q 9 ((.l 10 [] (.done))))))))))))))) Kr ?_)
  refine qK rfl rfl rfl rfl (qK rfl rfl rfl rfl (qX rfl rfl rfl rfl (qG (k:=1) rfl rfl rfl rfl υ'43 rfl ζ'41 rfl ?_)))
  refine qP (j:=1) rfl rfl rfl rfl α'41 Tk Az (by rfl) ?_
  refine kG rfl rfl rfl rfl Tryz.isAgg82 ζ'82 Tk 0 (us:=[_,_,_,_]) Az rfl rfl ?_
  refine cL rfl rfl rfl rfl (sQ (us:=[_,_,_,_]) υ'41 ζ'82 rfl ω'82 rfl rfl rfl) ?_
  intro b43
  refine qH (q:=1) rfl rfl rfl α'41 Tk Az (by rfl) ?_
  refine qV (sG (sz:=4) (enc:=encV) (xs:=GV) rfl rfl rfl rfl rfl υ'41 Tryz.typeInfo82 rfl rfl rfl (by decide) Tk Tk (by first | rfl | omega | (simp;done) | (simp;omega)) (ys:=[((some ⟨qb,0,none⟩,some ⟨yb,0,none⟩,fl,fg):P4)]) (sX sS) (by rfl) (by first | rfl | omega) (encV_len) (encV_one) Om (by show _*32≤_;omega) ?_)
  intro ao44 cp44
  refine kB 44 rfl (v':=.slice ao44 (k+1) cp44) (by first | rfl | (congr 1;done) | (congr 1 <;> first | rfl | omega | (simp;done) | (simp;omega))) ?_
  refine qV (qX rfl rfl rfl rfl (qG (k:=1) rfl rfl rfl rfl υ'43 rfl ζ'41 rfl ?_))
  refine kH (j:=1) rfl rfl rfl rfl ζ'41 (us:=[_]) rfl rfl rfl Tk Az (by first | decide | (simp;done) | omega) ?_
  simp only [setL,List.set]
  refine qV (qR (qW [3,23,24,25] (e':=[(3,_),(23,_),(24,_),(25,_)]) rfl ?_))
  refine kX (qQ (qC (.q 0 (.q 1 (.done))) Kr ?_))
  refine qB rfl rfl rfl rfl rfl (cV _ (by exact kP Om Om)) ?_
  refine qK rfl rfl rfl rfl (qR (qQ (s_vecF rb ra rc w.1 Ts ?_)))
  refine s_vecF wb wa wc w.2.1 Ts ?_
  refine s_varF (some ⟨rb,0,none⟩,some ⟨wb,0,none⟩,fl,fg) w Ts hf ?_
  refine cY (res:=varA) (V:=V) (Y:=x.vs) (S:=[]) k Ts (by simp) hv hw ?_
  refine s_vecF qb qa qc w.1 Ts ?_
  refine s_vecF yb ya yc w.2.1 Ts ?_
  refine s_varF ((some ⟨qb,0,none⟩,some ⟨yb,0,none⟩,fl,fg):P4) w Ts hf ?_
  refine s_restL_push (res:=varA) (V:=GV) (Y:=x.vs.take k) ((some ⟨qb,0,none⟩,some ⟨yb,0,none⟩,fl,fg):P4) w Ts (by rw [List.length_take];omega) ?_
  rw [← take_snoc hw]
  refine kJ (x:=(k,GV,ga,gc)) ((k+1,GV++[((some ⟨qb,0,none⟩,some ⟨yb,0,none⟩,fl,fg):P4)],ao44,cp44)) ?_ ?_ ?_ ?_
  · try dsimp only
    exact ⟨by omega,by simp [hGV]⟩
  · show x.vs.length - (k+1) < x.vs.length - k;omega
  · exact ⟨rfl,rfl,rfl,rfl,trivial⟩
  · (try simp only [Ca,Na]);exact Tf
 refine cW (qY (qY (kK (qQ (qL (qC (.q 0 (.q 1 (.done))) Kr ?_))))))
 refine qK rfl rfl rfl rfl (qS rfl rfl rfl rfl (qR (qW [2] (e':=[(2,_)]) rfl ?_)))
 refine qQ (qJ ?_)
 obtain rfl:k=x.vs.length:=by omega
 rw [List.take_length]
 refine d_fold (b:=b) x (pa:=pa) (pc:=pc) (po:=po) (poc:=poc) (vb:=vb) (va:=va) (vc:=vc) (V:=V) Ts (by rfl) (by rfl) (by first | exact hV | simp) ?_
 refine d_fold (b:=b19) x (pa:=pa) (pc:=pc) (po:=po) (poc:=poc) (vb:=vq) (va:=ga) (vc:=gc) (V:=GV) Ts rfl (by first | rfl | omega) hGV ?_
 refine kD rfl rfl (b19) (by first | rfl | (first | rfl | (congr 1;done) | (congr 1 <;> first | rfl | omega | (simp;done) | (simp;omega)))) (by trivial) ?_
 exact Tf
end Go.Ab.Rv
