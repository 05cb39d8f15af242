/- What the law Plays rests on, part 3 of 7. -/
import Derived.Test.YtiefkbajaffgcaaGreatPlaysB
set_option linter.unusedVariables false
set_option linter.unusedSimpArgs false
set_option maxRecDepth 100000
namespace Go.Ab.Dj
open Go Go.Proofs Go.Ab Go.Ab.Fe Go.Ab.Vc
theorem vn5 {x:VS} {k t o:Int} {l:List Int} (h:x.th t=some l) (hk:k=5):vnF x k t o=⟨nxF x.ck k t o,upd x.th t (some (mgF (x.lk o) l)),x.lk,x.vo,x.rd⟩:=by rw [vnF,if_pos hk,thF_eq h]
theorem vn3 {x:VS} {k t o:Int} {l:List Int} (h:x.th t=some l) (hk:k=3):vnF x k t o=⟨nxF x.ck k t o,upd x.th t (some (mgF (x.vo o) l)),x.lk,x.vo,x.rd⟩:=by rw [vnF,if_neg Om,if_pos hk,thF_eq h]
theorem vn8 {x:VS} {k t o:Int} {l:List Int} (h:x.th t=some l) (hk:k=8):vnF x k t o=⟨nxF x.ck k t o,upd x.th t (some (mgF (x.th o) l)),x.lk,x.vo,x.rd⟩:=by rw [vnF,if_neg Om,if_neg Om,if_pos hk,thF_eq h]
theorem vn10 {x:VS} {k t o:Int} {l:List Int} (h:x.th t=some l) (hk:k=10):vnF x k t o=⟨nxF x.ck k t o,(dpF x t o).th,(dpF x t o).lk,(dpF x t o).vo,(dpF x t o).rd⟩:=by rw [vnF,if_neg Om,if_neg Om,if_neg Om,if_pos hk];rfl
theorem vn6 {x:VS} {k t o:Int} {l:List Int} (h:x.th t=some l) (hk:k=6):vnF x k t o=⟨nxF x.ck k t o,upd x.th t (some (icL l t.toNat)),upd x.lk o (some l),x.vo,x.rd⟩:=by rw [vnF,if_neg Om,if_neg Om,if_neg Om,if_neg Om,if_pos hk,thF_eq h]
theorem vn4 {x:VS} {k t o:Int} {l:List Int} (h:x.th t=some l) (hk:k=4):vnF x k t o=⟨nxF x.ck k t o,upd x.th t (some (icL l t.toNat)),x.lk,upd x.vo o (some (mgF (x.vo o) l)),x.rd⟩:=by rw [vnF,if_neg Om,if_neg Om,if_neg Om,if_neg Om,if_neg Om,if_pos hk,thF_eq h]
theorem vn9 {x:VS} {k t o:Int} {l:List Int} (h:x.th t=some l) (hk:k=9):vnF x k t o=⟨nxF x.ck k t o,upd x.th t (some (icL l t.toNat)),x.lk,x.vo,upd x.rd (o,(opF x.ck o).1) (some (mgF ((x.rd (o,(opF x.ck o).1)).map (·.1)) l,x.ck.pa.getD o.toNat 0))⟩:=by rw [vnF,if_neg Om,if_neg Om,if_neg Om,if_neg Om,if_neg Om,if_neg Om,if_pos hk,thF_eq h]
theorem vn7 {x:VS} {k t o:Int} {l:List Int} (h:x.th t=some l) (hk:k=7):vnF x k t o=⟨nxF x.ck k t o,upd (upd x.th o (some (stL l o.toNat 1))) t (some (icL l t.toNat)),x.lk,x.vo,x.rd⟩:=by rw [vnF,if_neg Om,if_neg Om,if_neg Om,if_neg Om,if_neg Om,if_neg Om,if_neg Om,if_pos hk,thF_eq h]
theorem vn0 {x:VS} {k t o:Int} (k5:k≠5) (k3:k≠3) (k8:k≠8) (k10:k≠10) (k6:k≠6) (k4:k≠4) (k9:k≠9) (k7:k≠7):vnF x k t o=⟨nxF x.ck k t o,x.th,x.lk,x.vo,x.rd⟩:=by simp [vnF, *]
theorem nx_pa (x:CS) (k t o:Int):(nxF x k t o).pa=x.pa:=by
  unfold nxF
  split
  · unfold nextF
    repeat (split;· rfl)
    rfl
  · rfl
theorem map_fst_cv {x:VS} (hx:VInv x) {r:Int × Int} {q:List Int} (h:(x.rd r).map (·.1)=some q):CV q:=by
  cases hr:x.rd r with
  | none=>rw [hr] at h;cases h
  | some p=>rw [hr] at h;cases h;exact hx.rdc _ _ hr
theorem join_ne {x:CS} {t:Int} {k:Int} (hc:canF x k t t) (hk:k=8):False:=by
  rcases hc with ⟨h1,h2,-⟩ | ⟨h1,-,h2⟩
  · omega
  · unfold okK at h2
    rcases h2 with h | h | h | h | h | h | h | h <;> omega
theorem next_spec (pa:Option Addr) (pc:Nat) (po:Option Addr) (poc b:Nat) (x:VS) (hx:VInv x) (hn:x.ck.n≤1000000000000000) (pl:List Int) (hpl:x.ck.pa=pl) (k t o:Int) (hvc:vcanF x k t o):Spec Tryz.prog 28 [.pointer (some ⟨b,0,none⟩),.agg #[.int .i64 k,.int .i64 t,.int .i64 o]] [vsR pa pc po poc b x,own 1 encZ pa pc pl,own 1 encZ po poc pl] (fun (_:Unit)=>.tuple #[]) (fun _=>True) (fun _=>[vsR pa pc po poc b (vnF x k t o),own 1 encZ pa pc pl,own 1 encZ po poc pl]):=by
 refine kS (n:=178) Tryz.func28 J J J ?_
 intro Γ w0
 simp only [argE,Ca,Na,Zd,Nat.reduceAdd]
 refine qL (qC ((.l 0 [] (.done))) Kr ?_)
 refine sG J J J J (us:=[_,_,_]) J ?_
 intro b3
 refine qV (qS (qQ (qL ?_)))
 obtain ⟨hc,hlt⟩:=hvc
 obtain ⟨l,hth⟩:=th_some hx (can_th hc)
 obtain ⟨h0,h1⟩:=th_rng hx (can_th hc)
 rw [thF_eq hth] at hlt
 have hlc:=hx.thc _ _ hth
 have hlen:=hlc.len
 obtain ⟨o5,o7,o9,o10,o11⟩:=can_obj hx.ck hc
 have hsh:=hx.ck.sh
 refine cP (A:=vsR pa pc po poc b x) Tk ?_
 refine vs_open fun cb m1 m2 m3 m4 F1 F2 F3 F4=>?_
 refine s_rest_take (F:=F1) (T:=x.th) (S:=[]) t Tk (by simp) hth fun tv htF=>?_
 refine s_vec Tk fun tb ta tc hta=>?_
 subst hta
 refine kM J (.q 0 (.q 1 (.q 2 (.q 3 (.q 4 (.q 5 (.q 6 (.q 7 (.done))))))))) Kr ?_
 refine qK J J J J (qZ J J J J (qG (k:=2) J J J J υ'86 J ζ'83 J ?_))
 refine qP (j:=2) J J J J α'83 Tk Az (by rfl) ?_
 refine qG (k:=1) J J J J υ'52 J ζ'3 J ?_
 refine qP (j:=1) J J J J α'3 Tk Az (by rfl) ?_
 refine rP (ek:=ekZ) (ev1:=evA) (F:=F1) (m:=m1) (k:=t) none J J J J J υ'83 (cD υ'3) ω'94 Tk ?_
 refine kF 15 J (v':=.pointer (some ⟨tb,0,none⟩)) (by rw [htF];rfl) ?_
 refine qR J J J J (qS (qW [0,3,4] (e':=[(0,_),(3,_),(4,_)]) J ?_))
 refine qQ (qL (qL (qC (.q 0 (.q 1 (.done))) Kr ?_)))
 refine qG (k:=0) J J J J υ'52 J ζ'50 J ?_
 refine qP (j:=0) J J J J α'50 Tk Az (by rfl) ?_
 refine qS (qQ (kV (qL (qC (.q 0 (.q 1 (.done))) Kr ?_))))
 refine qD J J J J J (cZ _ _ _ _) ?_
 refine qR J J J J (qS (qQ ?_))
 refine qF J (fun k5=>?_) (fun k5=>?_)
 ·
  refine s_rest_opt (F:=F2) (T:=x.lk) (S:=[]) o Tk (by simp) fun hso=>?_
  refine kM J (.q 0 (.q 1 (.q 2 (.q 3 (.q 4 (.q 5 (.q 6 (.q 7 (.q 8 (.q 9 (.q 10 (.q 11 (.q 12 (.q 13 ((.l 14 [3,5] ((.l 15 [] (.done))))))))))))))))))) Kr ?_
  refine qK J J J J (qZ J J J J (qG (k:=2) J J J J υ'86 J ζ'83 J ?_))
  refine qP (j:=2) J J J J α'83 Tk Az (by rfl) ?_
  refine qG (k:=1) J J J J υ'52 J ζ'3 J ?_
  refine qP (j:=1) J J J J α'3 Tk Az (by rfl) ?_
  refine qK J J J J (qZ J J J J (qG (k:=3) J J J J υ'86 J ζ'83 J ?_))
  refine qP (j:=3) J J J J α'83 Tk Az (by rfl) ?_
  refine qG (k:=2) J J J J υ'52 J ζ'3 J ?_
  refine qP (j:=2) J J J J α'3 Tk Az (by rfl) ?_
  refine rP (ek:=ekZ) (ev1:=evA) (F:=F2) (m:=m2) (k:=o) none J J J J J υ'83 (cD υ'3) ω'94 Tk ?_
  refine qK J J J J ?_
  have sp_1:=merged_spec ((F2 o).getD none) (x.lk o) (hx.lkc _) tb l ta tc hlc
  refine qB J J J J J J κ'63 (sp_1) Ts ?_
  rintro ⟨mb,ma,mc⟩ -
  try simp only [Ca,Na]
  refine qM (q:=2) J J J α'83 Tk Az (by rfl) ?_
  refine qM (q:=1) J J J α'3 Tk Az (by rfl) ?_
  refine qV (sX (ek:=ekZ) (ev1:=evA) (F:=F1) (m:=m1) (k:=t) (v:=(some ⟨mb,0,none⟩:Option Addr)) (by first | exact .inl J | exact .inr J) J J J J υ'83 (cD υ'3) Tk ?_)
  refine qV (qS (s_opt_back (F:=F2) (T:=x.lk) (S:=[]) o Ts (by simp) hso ?_))
  refine s_vecF mb ma mc (mgF (x.lk o) l) Ts ?_
  refine sQ (F:=F1) (T:=x.th) (S:=[]) t (upd F1 t (some (some ⟨mb,0,none⟩:Option Addr))) (upd x.th t (some (mgF (x.lk o) l))) Ts (by simp) sL (fun q h _=>sD h) sL (fun q h _=>sD h) ?_
  refine qW [0,3] (e':=[(0,_),(3,_)]) J ?_
  refine kG (qQ (kM J (.q 0 (.q 1 (.q 2 (.q 3 (.q 4 ((.l 5 [] (.done)))))))) Kr ?_))
  refine qK J J J J (qZ J J J J (qG (k:=0) J J J J υ'86 J ζ'82 J ?_))
  refine qP (j:=0) J J J J α'82 Tk Az (by rfl) ?_
  refine kC J J J J α'52 ζ'52 Tk 0 (us:=[_,_,_]) Az J J ?_
  have sp_2:=Fe.next_spec pa pc cb x.ck hx.ck (by first | exact hn | omega) pl (hpl) k t o
  refine qB J J J J J J κ'69 (sp_2) Ts ?_
  rintro ⟨⟩ -
  try simp only [Ca,Na]
  refine qV (qS (qW [] (e':=[]) J ?_))
  refine sZ ?_
  refine vs_fold (b:=b) (vnF x k t o) (pa:=pa) (pc:=pc) (po:=po) (poc:=poc) (cb:=cb) (m1:=m1) (m2:=m2) (m3:=m3) (m4:=m4) Ts (by exact vn5 hth k5) (by rw [nx_pa]) ?_
  refine ret0 J (()) (by first | rfl | (first | rfl | (congr 1;done) | (congr 1 <;> first | rfl | omega | (simp;done) | (simp;omega)))) (by trivial) ?_
  exact Tf
 refine qL (qC (.q 0 (.q 1 (.done))) Kr ?_)
 refine qD J J J J J (cZ _ _ _ _) ?_
 refine qR J J J J (qS (qW [0,3,4,17,35] (e':=[(0,_),(3,_),(4,_),(17,_),(35,_)]) J ?_))
 refine qQ ?_
 refine qF J (fun k3=>?_) (fun k3=>?_)
 ·
  refine s_rest_opt (F:=F3) (T:=x.vo) (S:=[]) o Tk (by simp) fun hso=>?_
  refine kM J (.q 0 (.q 1 (.q 2 (.q 3 (.q 4 (.q 5 (.q 6 (.q 7 (.q 8 (.q 9 (.q 10 (.q 11 (.q 12 (.q 13 ((.l 14 [3,5] ((.l 15 [] (.done))))))))))))))))))) Kr ?_
  refine qK J J J J (qZ J J J J (qG (k:=2) J J J J υ'86 J ζ'83 J ?_))
  refine qP (j:=2) J J J J α'83 Tk Az (by rfl) ?_
  refine qG (k:=1) J J J J υ'52 J ζ'3 J ?_
  refine qP (j:=1) J J J J α'3 Tk Az (by rfl) ?_
  refine qK J J J J (qZ J J J J (qG (k:=4) J J J J υ'86 J ζ'83 J ?_))
  refine qP (j:=4) J J J J α'83 Tk Az (by rfl) ?_
  refine qG (k:=2) J J J J υ'52 J ζ'3 J ?_
  refine qP (j:=2) J J J J α'3 Tk Az (by rfl) ?_
  refine rP (ek:=ekZ) (ev1:=evA) (F:=F3) (m:=m3) (k:=o) none J J J J J υ'83 (cD υ'3) ω'94 Tk ?_
  refine qK J J J J ?_
  have sp_3:=merged_spec ((F3 o).getD none) (x.vo o) (hx.voc _) tb l ta tc hlc
  refine qB J J J J J J κ'63 (sp_3) Ts ?_
  rintro ⟨mb,ma,mc⟩ -
  try simp only [Ca,Na]
  refine qM (q:=2) J J J α'83 Tk Az (by rfl) ?_
  refine qM (q:=1) J J J α'3 Tk Az (by rfl) ?_
  refine qV (sX (ek:=ekZ) (ev1:=evA) (F:=F1) (m:=m1) (k:=t) (v:=(some ⟨mb,0,none⟩:Option Addr)) (by first | exact .inl J | exact .inr J) J J J J υ'83 (cD υ'3) Tk ?_)
  refine qV (qS (s_opt_back (F:=F3) (T:=x.vo) (S:=[]) o Ts (by simp) hso ?_))
  refine s_vecF mb ma mc (mgF (x.vo o) l) Ts ?_
  refine sQ (F:=F1) (T:=x.th) (S:=[]) t (upd F1 t (some (some ⟨mb,0,none⟩:Option Addr))) (upd x.th t (some (mgF (x.vo o) l))) Ts (by simp) sL (fun q h _=>sD h) sL (fun q h _=>sD h) ?_
  refine qW [0,3] (e':=[(0,_),(3,_)]) J ?_
  refine kG (qQ (kM J (.q 0 (.q 1 (.q 2 (.q 3 (.q 4 ((.l 5 [] (.done)))))))) Kr ?_))
  refine qK J J J J (qZ J J J J (qG (k:=0) J J J J υ'86 J ζ'82 J ?_))
  refine qP (j:=0) J J J J α'82 Tk Az (by rfl) ?_
  refine kC J J J J α'52 ζ'52 Tk 0 (us:=[_,_,_]) Az J J ?_
  have sp_4:=Fe.next_spec pa pc cb x.ck hx.ck (by first | exact hn | omega) pl (hpl) k t o
  refine qB J J J J J J κ'69 (sp_4) Ts ?_
  rintro ⟨⟩ -
  try simp only [Ca,Na]
  refine qV (qS (qW [] (e':=[]) J ?_))
  refine sZ ?_
  refine vs_fold (b:=b) (vnF x k t o) (pa:=pa) (pc:=pc) (po:=po) (poc:=poc) (cb:=cb) (m1:=m1) (m2:=m2) (m3:=m3) (m4:=m4) Ts (by exact vn3 hth k3) (by rw [nx_pa]) ?_
  refine ret0 J (()) (by first | rfl | (first | rfl | (congr 1;done) | (congr 1 <;> first | rfl | omega | (simp;done) | (simp;omega)))) (by trivial) ?_
  exact Tf
 refine qL (qC (.q 0 (.q 1 (.done))) Kr ?_)
 refine qD J J J J J (cZ _ _ _ _) ?_
 refine qR J J J J (qS (qQ ?_))
 refine qF J (fun k8=>?_) (fun k8=>?_)
 ·
  have hne:o≠t:=by
    intro e;rw [e] at hc
    exact join_ne hc k8
  refine s_rest_opt (F:=F1) (T:=x.th) (S:=[t]) o Tk (by simpa using hne) fun hso=>?_
  refine kM J (.q 0 (.q 1 (.q 2 (.q 3 (.q 4 (.q 5 (.q 6 (.q 7 (.q 8 (.q 9 (.q 10 (.q 11 (.q 12 (.q 13 ((.l 14 [3,5] ((.l 15 [] (.done))))))))))))))))))) Kr ?_
  refine qK J J J J (qZ J J J J (qG (k:=2) J J J J υ'86 J ζ'83 J ?_))
  refine qP (j:=2) J J J J α'83 Tk Az (by rfl) ?_
  refine qG (k:=1) J J J J υ'52 J ζ'3 J ?_
  refine qP (j:=1) J J J J α'3 Tk Az (by rfl) ?_
  refine qK J J J J (qZ J J J J (qG (k:=2) J J J J υ'86 J ζ'83 J ?_))
  refine qP (j:=2) J J J J α'83 Tk Az (by rfl) ?_
  refine qG (k:=2) J J J J υ'52 J ζ'3 J ?_
  refine qP (j:=2) J J J J α'3 Tk Az (by rfl) ?_
  refine rP (ek:=ekZ) (ev1:=evA) (F:=F1) (m:=m1) (k:=o) none J J J J J υ'83 (cD υ'3) ω'94 Tk ?_
  refine qK J J J J ?_
  have sp_5:=merged_spec ((F1 o).getD none) (x.th o) (hx.thc _) tb l ta tc hlc
  refine qB J J J J J J κ'63 (sp_5) Ts ?_
  rintro ⟨mb,ma,mc⟩ -
  try simp only [Ca,Na]
  refine qM (q:=2) J J J α'83 Tk Az (by rfl) ?_
  refine qM (q:=1) J J J α'3 Tk Az (by rfl) ?_
  refine qV (sX (ek:=ekZ) (ev1:=evA) (F:=F1) (m:=m1) (k:=t) (v:=(some ⟨mb,0,none⟩:Option Addr)) (by first | exact .inl J | exact .inr J) J J J J υ'83 (cD υ'3) Tk ?_)
  refine qV (qS (s_opt_back (F:=F1) (T:=x.th) (S:=[t]) o Ts (by simpa using hne) hso ?_))
  refine s_vecF mb ma mc (mgF (x.th o) l) Ts ?_
  refine sQ (F:=F1) (T:=x.th) (S:=[]) t (upd F1 t (some (some ⟨mb,0,none⟩:Option Addr))) (upd x.th t (some (mgF (x.th o) l))) Ts (by simp) sL (fun q h _=>sD h) sL (fun q h _=>sD h) ?_
  refine qW [0,3] (e':=[(0,_),(3,_)]) J ?_
  refine kG (qQ (kM J (.q 0 (.q 1 (.q 2 (.q 3 (.q 4 ((.l 5 [] (.done)))))))) Kr ?_))
  refine qK J J J J (qZ J J J J (qG (k:=0) J J J J υ'86 J ζ'82 J ?_))
  refine qP (j:=0) J J J J α'82 Tk Az (by rfl) ?_
  refine kC J J J J α'52 ζ'52 Tk 0 (us:=[_,_,_]) Az J J ?_
  have sp_6:=Fe.next_spec pa pc cb x.ck hx.ck (by first | exact hn | omega) pl (hpl) k t o
  refine qB J J J J J J κ'69 (sp_6) Ts ?_
  rintro ⟨⟩ -
  try simp only [Ca,Na]
  refine qV (qS (qW [] (e':=[]) J ?_))
  refine sZ ?_
  refine vs_fold (b:=b) (vnF x k t o) (pa:=pa) (pc:=pc) (po:=po) (poc:=poc) (cb:=cb) (m1:=m1) (m2:=m2) (m3:=m3) (m4:=m4) Ts (by exact vn8 hth k8) (by rw [nx_pa]) ?_
  refine ret0 J (()) (by first | rfl | (first | rfl | (congr 1;done) | (congr 1 <;> first | rfl | omega | (simp;done) | (simp;omega)))) (by trivial) ?_
  exact Tf
 refine qL (qC (.q 0 (.q 1 (.done))) Kr ?_)
 refine qD J J J J J (cZ _ _ _ _) ?_
 refine qR J J J J (qS (qW [0,3,4,17,69] (e':=[(0,_),(3,_),(4,_),(17,_),(69,_)]) J ?_))
 refine qQ ?_
 refine qF J (fun k10=>?_) (fun k10=>?_)
 ·
  refine s_vecF tb ta tc l Ts ?_
  refine sQ (F:=F1) (T:=x.th) (S:=[]) t F1 x.th Ts (by simp) htF (fun _ _ _=>rfl) hth (fun _ _ _=>rfl) ?_
  refine vs_fold (b:=b) x (pa:=pa) (pc:=pc) (po:=po) (poc:=poc) (cb:=cb) (m1:=m1) (m2:=m2) (m3:=m3) (m4:=m4) Ts (by rfl) (by rfl) ?_
  refine qC (.q 0 (.q 1 ((.l 2 [] (.done))))) Kr ?_
  refine qK J J J J (kC J J J J α'52 ζ'52 Tk 0 (us:=[_,_,_]) Az J J ?_)
  have sp_7:=depart_spec pa pc po poc b x hx k t o (o10 k10).1 (o10 k10).2.2
  refine qB J J J J J J Tryz.call64 (sp_7) Ts ?_
  rintro ⟨⟩ -
  try simp only [Ca,Na]
  refine qV (qS (cP (A:=vsR pa pc po poc b (dpF x t o)) Tk ?_))
  refine vs_open fun cbz m1z m2z m3z m4z F1z F2z F3z F4z=>?_
  try simp only [show (dpF x t o).ck=x.ck from rfl]
  refine qW [0,3] (e':=[(0,_),(3,_)]) J ?_
  refine kG (qQ (kM J (.q 0 (.q 1 (.q 2 (.q 3 (.q 4 ((.l 5 [] (.done)))))))) Kr ?_))
  refine qK J J J J (qZ J J J J (qG (k:=0) J J J J υ'86 J ζ'82 J ?_))
  refine qP (j:=0) J J J J α'82 Tk Az (by rfl) ?_
  refine kC J J J J α'52 ζ'52 Tk 0 (us:=[_,_,_]) Az J J ?_
  have sp_8:=Fe.next_spec pa pc cbz x.ck hx.ck (by first | exact hn | omega) pl (hpl) k t o
  refine qB J J J J J J κ'69 (sp_8) Ts ?_
  rintro ⟨⟩ -
  try simp only [Ca,Na]
  refine qV (qS (qW [] (e':=[]) J ?_))
  refine sZ ?_
  refine vs_fold (b:=b) (vnF x k t o) (pa:=pa) (pc:=pc) (po:=po) (poc:=poc) (cb:=cbz) (m1:=m1z) (m2:=m2z) (m3:=m3z) (m4:=m4z) Ts (by exact vn10 hth k10) (by rw [nx_pa]) ?_
  refine ret0 J (()) (by first | rfl | (first | rfl | (congr 1;done) | (congr 1 <;> first | rfl | omega | (simp;done) | (simp;omega)))) (by trivial) ?_
  exact Tf
 refine qL (qC (.q 0 (.q 1 (.done))) Kr ?_)
 refine qD J J J J J (cZ _ _ _ _) ?_
 refine qR J J J J (qS (qQ ?_))
 refine qF J (fun k6=>?_) (fun k6=>?_)
 ·
  refine qL (s_rest_opt (F:=F2) (T:=x.lk) (S:=[]) o Tk (by simp) fun hso=>?_)
  refine kM J (.q 0 (.q 1 (.q 2 (.q 3 (.q 4 (.q 5 (.q 6 ((.l 7 [3,5] ((.l 8 [] (.done)))))))))))) Kr ?_
  refine qK J J J J (qZ J J J J (qG (k:=3) J J J J υ'86 J ζ'83 J ?_))
  refine qP (j:=3) J J J J α'83 Tk Az (by rfl) ?_
  refine qG (k:=2) J J J J υ'52 J ζ'3 J ?_
  refine qP (j:=2) J J J J α'3 Tk Az (by rfl) ?_
  refine qK J J J J ?_
  have sp_9:=Vc.copy_spec tb l ta l.length tc (by rfl) Om
  refine qB J J J J J J κ'65 (sp_9) Ts ?_
  rintro ⟨ub,ua,uc⟩ -
  try simp only [Ca,Na]
  refine qM (q:=3) J J J α'83 Tk Az (by rfl) ?_
  refine qM (q:=2) J J J α'3 Tk Az (by rfl) ?_
  refine qV (sX (ek:=ekZ) (ev1:=evA) (F:=F2) (m:=m2) (k:=o) (v:=(some ⟨ub,0,none⟩:Option Addr)) (by first | exact .inl J | exact .inr J) J J J J υ'83 (cD υ'3) Tk ?_)
  refine qV (qS (s_vecF ub ua uc l Ts ?_))
  refine sQ (F:=F2) (T:=x.lk) (S:=[]) o (upd F2 o (some (some ⟨ub,0,none⟩:Option Addr))) (upd x.lk o (some l)) Ts (by simp) sL (fun q h _=>sD h) sL (fun q h _=>sD h) ?_
  refine qW [0,3,4] (e':=[(0,_),(3,_),(4,_)]) J ?_
  refine qQ (qC (.q 0 (.q 1 (.q 2 ((.l 3 [] (.done)))))) Kr ?_)
  refine qK J J J J (qG (k:=1) J J J J υ'52 J ζ'3 J ?_)
  refine qP (j:=1) J J J J α'3 Tk Az (by rfl) ?_
  have sp_10:=inc_z tb l ta l.length tc Ln hlc t Om Om (by exact hlt (by unfold relK;omega))
  refine qB J J J J J J κ'66 (sp_10) Ts ?_
  rintro ⟨ia,ic⟩ -
  try simp only [Ca,Na]
  refine qV (qS (s_vecF tb ia ic (icL l t.toNat) Ts ?_))
  refine sQ (F:=F1) (T:=x.th) (S:=[]) t F1 (upd x.th t (some (icL l t.toNat))) Ts (by simp) htF (fun _ _ _=>rfl) sL (fun q h _=>sD h) ?_
  refine qW [0,3] (e':=[(0,_),(3,_)]) J ?_
  refine kG (qQ (kM J (.q 0 (.q 1 (.q 2 (.q 3 (.q 4 ((.l 5 [] (.done)))))))) Kr ?_))
  refine qK J J J J (qZ J J J J (qG (k:=0) J J J J υ'86 J ζ'82 J ?_))
  refine qP (j:=0) J J J J α'82 Tk Az (by rfl) ?_
  refine kC J J J J α'52 ζ'52 Tk 0 (us:=[_,_,_]) Az J J ?_
  have sp_11:=Fe.next_spec pa pc cb x.ck hx.ck (by first | exact hn | omega) pl (hpl) k t o
  refine qB J J J J J J κ'69 (sp_11) Ts ?_
  rintro ⟨⟩ -
  try simp only [Ca,Na]
  refine qV (qS (qW [] (e':=[]) J ?_))
  refine sZ ?_
  refine vs_fold (b:=b) (vnF x k t o) (pa:=pa) (pc:=pc) (po:=po) (poc:=poc) (cb:=cb) (m1:=m1) (m2:=m2) (m3:=m3) (m4:=m4) Ts (by exact vn6 hth k6) (by rw [nx_pa]) ?_
  refine ret0 J (()) (by first | rfl | (first | rfl | (congr 1;done) | (congr 1 <;> first | rfl | omega | (simp;done) | (simp;omega)))) (by trivial) ?_
  exact Tf
 refine qL (qC (.q 0 (.q 1 (.done))) Kr ?_)
 refine qD J J J J J (cZ _ _ _ _) ?_
 refine qR J J J J (qS (qW [0,3,4,17,88] (e':=[(0,_),(3,_),(4,_),(17,_),(88,_)]) J ?_))
 refine qQ ?_
 refine qF J (fun k4=>?_) (fun k4=>?_)
 ·
  refine qL (s_rest_opt (F:=F3) (T:=x.vo) (S:=[]) o Tk (by simp) fun hso=>?_)
  refine kM J (.q 0 (.q 1 (.q 2 (.q 3 (.q 4 (.q 5 (.q 6 (.q 7 (.q 8 (.q 9 (.q 10 (.q 11 (.q 12 (.q 13 ((.l 14 [3,5] ((.l 15 [] (.done))))))))))))))))))) Kr ?_
  refine qK J J J J (qZ J J J J (qG (k:=4) J J J J υ'86 J ζ'83 J ?_))
  refine qP (j:=4) J J J J α'83 Tk Az (by rfl) ?_
  refine qG (k:=2) J J J J υ'52 J ζ'3 J ?_
  refine qP (j:=2) J J J J α'3 Tk Az (by rfl) ?_
  refine qK J J J J (qZ J J J J (qG (k:=4) J J J J υ'86 J ζ'83 J ?_))
  refine qP (j:=4) J J J J α'83 Tk Az (by rfl) ?_
  refine qG (k:=2) J J J J υ'52 J ζ'3 J ?_
  refine qP (j:=2) J J J J α'3 Tk Az (by rfl) ?_
  refine rP (ek:=ekZ) (ev1:=evA) (F:=F3) (m:=m3) (k:=o) none J J J J J υ'83 (cD υ'3) ω'94 Tk ?_
  refine qK J J J J ?_
  have sp_12:=merged_spec ((F3 o).getD none) (x.vo o) (hx.voc _) tb l ta tc hlc
  refine qB J J J J J J κ'63 (sp_12) Ts ?_
  rintro ⟨mb,ma,mc⟩ -
  try simp only [Ca,Na]
  refine qM (q:=4) J J J α'83 Tk Az (by rfl) ?_
  refine qM (q:=2) J J J α'3 Tk Az (by rfl) ?_
  refine qV (sX (ek:=ekZ) (ev1:=evA) (F:=F3) (m:=m3) (k:=o) (v:=(some ⟨mb,0,none⟩:Option Addr)) (by first | exact .inl J | exact .inr J) J J J J υ'83 (cD υ'3) Tk ?_)
  refine qV (qS (s_vecF mb ma mc (mgF (x.vo o) l) Ts ?_))
  refine sQ (F:=F3) (T:=x.vo) (S:=[]) o (upd F3 o (some (some ⟨mb,0,none⟩:Option Addr))) (upd x.vo o (some (mgF (x.vo o) l))) Ts (by simp) sL (fun q h _=>sD h) sL (fun q h _=>sD h) ?_
  refine qW [0,3,4] (e':=[(0,_),(3,_),(4,_)]) J ?_
  refine qQ (qC (.q 0 (.q 1 (.q 2 ((.l 3 [] (.done)))))) Kr ?_)
  refine qK J J J J (qG (k:=1) J J J J υ'52 J ζ'3 J ?_)
  refine qP (j:=1) J J J J α'3 Tk Az (by rfl) ?_
  have sp_13:=inc_z tb l ta l.length tc Ln hlc t Om Om (by exact hlt (by unfold relK;omega))
  refine qB J J J J J J κ'66 (sp_13) Ts ?_
  rintro ⟨ia,ic⟩ -
  try simp only [Ca,Na]
  refine qV (qS (s_vecF tb ia ic (icL l t.toNat) Ts ?_))
  refine sQ (F:=F1) (T:=x.th) (S:=[]) t F1 (upd x.th t (some (icL l t.toNat))) Ts (by simp) htF (fun _ _ _=>rfl) sL (fun q h _=>sD h) ?_
  refine qW [0,3] (e':=[(0,_),(3,_)]) J ?_
  refine kG (qQ (kM J (.q 0 (.q 1 (.q 2 (.q 3 (.q 4 ((.l 5 [] (.done)))))))) Kr ?_))
  refine qK J J J J (qZ J J J J (qG (k:=0) J J J J υ'86 J ζ'82 J ?_))
  refine qP (j:=0) J J J J α'82 Tk Az (by rfl) ?_
  refine kC J J J J α'52 ζ'52 Tk 0 (us:=[_,_,_]) Az J J ?_
  have sp_14:=Fe.next_spec pa pc cb x.ck hx.ck (by first | exact hn | omega) pl (hpl) k t o
  refine qB J J J J J J κ'69 (sp_14) Ts ?_
  rintro ⟨⟩ -
  try simp only [Ca,Na]
  refine qV (qS (qW [] (e':=[]) J ?_))
  refine sZ ?_
  refine vs_fold (b:=b) (vnF x k t o) (pa:=pa) (pc:=pc) (po:=po) (poc:=poc) (cb:=cb) (m1:=m1) (m2:=m2) (m3:=m3) (m4:=m4) Ts (by exact vn4 hth k4) (by rw [nx_pa]) ?_
  refine ret0 J (()) (by first | rfl | (first | rfl | (congr 1;done) | (congr 1 <;> first | rfl | omega | (simp;done) | (simp;omega)))) (by trivial) ?_
  exact Tf
 refine qL (qC (.q 0 (.q 1 (.done))) Kr ?_)
 refine qD J J J J J (cZ _ _ _ _) ?_
 refine qR J J J J (qS (qQ ?_))
 refine qF J (fun k9=>?_) (fun k9=>?_)
 ·
  refine qL ?_
  obtain ⟨p0,p1,p2,p3⟩:=o9 k9
  have hyes:0≤o∧o < (x.ck.B.length:Int):=⟨p0,by omega⟩
  refine kM J (.q 0 (.q 1 (.q 2 (.q 3 (.q 4 (.q 5 ((.alt (.l 6 [] (.q 7 (.q 8 (.q 9 ((.l 10 [] ((.l 11 [] (.q 12 (.done)))))))))) (.l 10 [3,5] ((.l 6 [] (.q 7 (.q 8 (.q 9 ((.l 11 [] (.q 12 (.done)))))))))))))))))) Kr ?_
  refine qK J J J J (qZ J J J J (qG (k:=0) J J J J υ'86 J ζ'82 J ?_))
  refine qP (j:=0) J J J J α'82 Tk Az (by rfl) ?_
  refine qG (k:=2) J J J J υ'52 J ζ'3 J ?_
  refine qP (j:=2) J J J J α'3 Tk Az (by rfl) ?_
  refine rV ?_ ?_
  ·
   have sp_15:=Fe.round_spec pa pc cb x.ck o
   refine qB J J J J J J Tryz.call67 (sp_15) Ts ?_
   rintro ⟨⟩ -
   try simp only [Ca,Na]
   refine qV (kF 118 J (v':=.tuple #[.agg #[.int .i64 ((opF x.ck o).1),.int .i64 ((opF x.ck o).2)],.int .i64 0]) (by rw [if_pos hyes,if_pos hyes]) ?_)
   refine qK J J J J (kX J J J J J (kX J J J J J (cY J J J ω'149 (zs:=[.int .i64 0,.int .i64 0]) J ?_)))
   intro b5
   refine qV (kR (j:=0) J J J J ζ'149 (us:=[_,_]) J J J Tk Az (by first | decide | (simp;done) | omega) ?_)
   simp only [setL,List.set]
   refine qV (qR J J J J (qS (qW [0,3,4,5] (e':=[(0,_),(3,_),(4,_),(5,_)]) J ?_)))
   refine qQ (qL (qC (.q 0 (.q 1 (.q 2 (.q 3 (.q 4 ((.l 5 [] ((.l 6 [] (.done)))))))))) Kr ?_))
   refine qG (k:=2) J J J J υ'52 J ζ'3 J ?_
   refine qP (j:=2) J J J J α'3 Tk Az (by rfl) ?_
   refine qG (k:=0) J J J J υ'149 J ζ'3 J ?_
   refine qP (j:=0) J J J J α'3 Tk Az (by rfl) ?_
   refine kB J J J J (vs:=[_,_]) (kQ υ'153 ω'153 (ps:=[(0,1),(1,1)]) ⟨rfl,ζ'3,rfl,ζ'3,trivial⟩ rfl) ?_
   refine cY J J J ω'153 (zs:=[.int .i64 0,.int .i64 0]) J ?_
   intro b7
   refine qV (kR (j:=0) J J J J ζ'153 (us:=[_,_]) J J J Tk Az (by first | decide | (simp;done) | omega) ?_)
   simp only [setL,List.set]
   refine qV (qS (qW [0,3,4,7] (e':=[(0,_),(3,_),(4,_),(7,_)]) J ?_))
   refine qQ (qL ?_)
   obtain ⟨pp,hpp⟩:=cX (l:=pl) (i:=o.toNat) (by rw [← hpl];omega)
   refine s_rest_optH (G:=F4) (U:=x.rd) (S:=[]) (o,(opF x.ck o).1) Tk (by simp) ?_
   refine kM J (.q 0 (.q 1 (.q 2 (.q 3 (.q 4 (.q 5 (.q 6 (.q 7 (.q 8 (.q 9 (.q 10 (.q 11 (.q 12 (.q 14 (.q 15 (.q 16 (.q 17 (.q 18 (.q 19 (.q 20 (.q 21 ((.l 13 [3,4,17,19,21] (.q 22 ((.l 23 [] (.done))))))))))))))))))))))))))) Kr ?_
   refine qK J J J J (qZ J J J J (qG (k:=5) J J J J υ'86 J ζ'84 J ?_))
   refine qP (j:=5) J J J J α'84 Tk Az (by rfl) ?_
   refine kC J J J J α'153 ζ'153 Tk 0 (us:=[_,_]) Az J J ?_
   refine qK J J J J (qZ J J J J (qG (k:=5) J J J J υ'86 J ζ'84 J ?_))
   refine qP (j:=5) J J J J α'84 Tk Az (by rfl) ?_
   refine kC J J J J α'153 ζ'153 Tk 0 (us:=[_,_]) Az J J ?_
   refine rP (ek:=ek2) (ev1:=evH) (F:=F4) (m:=m4) (k:=(o,(opF x.ck o).1)) (none,0) J J J J J υ'84 (sH υ'153 J J J J υ'3 υ'3 α'3 α'3 Kr) ω'155 Tk ?_
   refine q_fld J J J J υ'155 J α'94 J ?_
   refine qK J J J J (qK J J J J (qZ J J J J (qG (k:=1) J J J J υ'86 J ζ'22 J ?_)))
   refine qP (j:=1) J J J J α'22 Tk Az (by rfl) ?_
   refine qG (k:=2) J J J J υ'52 J ζ'3 J ?_
   refine qP (j:=2) J J J J α'3 Tk Az (by rfl) ?_
   refine cK (sz:=0) (k:=o.toNat) (enc:=encZ) (xs:=pl) J J J J J υ'22 ζ'3 hpp Om Om Tk ?_
   intro ib146 io146 ha146 hl146 hc146
   refine cQ (v:=(.int .i64 pp)) (j:=0) (k':=o.toNat) (enc:=encZ) (off:=io146) J J J J α'3 ha146 encZ_len hpp Tk (by first | rfl | exact (Ad _).symm | omega) (by rfl) ?_
   have sp_16:=merged_spec (((F4 (o,(opF x.ck o).1)).getD (none,0)).1) ((x.rd (o,(opF x.ck o).1)).map (·.1)) (fun _=>map_fst_cv hx) tb l ta tc hlc
   refine qB J J J J J J κ'63 (sp_16) Ts ?_
   rintro ⟨mb,ma,mc⟩ -
   try simp only [Ca,Na]
   refine qM (q:=5) J J J α'84 Tk Az (by rfl) ?_
   refine kW J J (us:=[_,_]) J α'153 ζ'153 Tk 0 Az J J ?_
   refine qM (q:=1) J J J α'22 Tk Az (by rfl) ?_
   refine qM (q:=2) J J J α'3 Tk Az (by rfl) ?_
   refine ag_load_O (v:=(.int .i64 pp)) (j:=0) (k':=o.toNat) (enc:=encZ) (off:=io146) J J J α'3 ha146 encZ_len hpp Tk (by first | rfl | exact (Ad _).symm | omega) (by rfl) ?_
   refine qV (kB J J J J (vs:=[_,_]) (kQ υ'155 ω'155 (ps:=[(0,1),(1,1)]) ⟨rfl,ζ'94,rfl,ζ'3,trivial⟩ rfl) ?_)
   refine sX (ek:=ek2) (ev1:=evH) (F:=F4) (m:=m4) (k:=(o,(opF x.ck o).1)) (v:=((some ⟨mb,0,none⟩:Option Addr),pp)) (by first | exact .inl J | exact .inr J) J J J J υ'84 (sH υ'153 J J J J υ'3 υ'3 α'3 α'3 Kr) Tk ?_
   refine qV (qS (s_vecF mb ma mc (mgF ((x.rd (o,(opF x.ck o).1)).map (·.1)) l) Ts ?_))
   refine s_heldF (some ⟨mb,0,none⟩,pp) (mgF ((x.rd (o,(opF x.ck o).1)).map (·.1)) l,pp) Td J ?_
   refine sQ (F:=F4) (T:=x.rd) (S:=[]) (o,(opF x.ck o).1) (upd F4 (o,(opF x.ck o).1) (some (some ⟨mb,0,none⟩,pp))) (upd x.rd (o,(opF x.ck o).1) (some (mgF ((x.rd (o,(opF x.ck o).1)).map (·.1)) l,pp))) Ts (by simp) sL (fun q h _=>sD h) sL (fun q h _=>sD h) ?_
   refine qW [0,3,4] (e':=[(0,_),(3,_),(4,_)]) J ?_
   refine qQ (qC (.q 0 (.q 1 (.q 2 ((.l 3 [] (.done)))))) Kr ?_)
   refine qK J J J J (qG (k:=1) J J J J υ'52 J ζ'3 J ?_)
   refine qP (j:=1) J J J J α'3 Tk Az (by rfl) ?_
   have sp_17:=inc_z tb l ta l.length tc Ln hlc t Om Om (by exact hlt (by unfold relK;omega))
   refine qB J J J J J J κ'66 (sp_17) Ts ?_
   rintro ⟨ia,ic⟩ -
   try simp only [Ca,Na]
   refine qV (qS (s_vecF tb ia ic (icL l t.toNat) Ts ?_))
   refine sQ (F:=F1) (T:=x.th) (S:=[]) t F1 (upd x.th t (some (icL l t.toNat))) Ts (by simp) htF (fun _ _ _=>rfl) sL (fun q h _=>sD h) ?_
   refine qW [0,3] (e':=[(0,_),(3,_)]) J ?_
   refine kG (qQ (kM J (.q 0 (.q 1 (.q 2 (.q 3 (.q 4 ((.l 5 [] (.done)))))))) Kr ?_))
   refine qK J J J J (qZ J J J J (qG (k:=0) J J J J υ'86 J ζ'82 J ?_))
   refine qP (j:=0) J J J J α'82 Tk Az (by rfl) ?_
   refine kC J J J J α'52 ζ'52 Tk 0 (us:=[_,_,_]) Az J J ?_
   have sp_18:=Fe.next_spec pa pc cb x.ck hx.ck (by first | exact hn | omega) pl (hpl) k t o
   refine qB J J J J J J κ'69 (sp_18) Ts ?_
   rintro ⟨⟩ -
   try simp only [Ca,Na]
   refine qV (qS (qW [] (e':=[]) J ?_))
   refine sZ ?_
   refine vs_fold (b:=b) (vnF x k t o) (pa:=pa) (pc:=pc) (po:=po) (poc:=poc) (cb:=cb) (m1:=m1) (m2:=m2) (m3:=m3) (m4:=m4) Ts (by rw [vn9 hth k9,show x.ck.pa.getD o.toNat 0=pp from by rw [hpl];exact getD_some hpp]) (by rw [nx_pa]) ?_
   refine ret0 J (()) (by first | rfl | (first | rfl | (congr 1;done) | (congr 1 <;> first | rfl | omega | (simp;done) | (simp;omega)))) (by trivial) ?_
   exact Tf
  refine cY J J J ω'149 (zs:=[.int .i64 0,.int .i64 0]) J ?_
  intro b5
  refine qM (q:=0) J J J α'82 Tk Az (by rfl) ?_
  refine qM (q:=2) J J J α'3 Tk Az (by rfl) ?_
  refine qV ?_
  have sp_19:=Fe.round_spec pa pc cb x.ck o
  refine qB J J J J J J Tryz.call67 (sp_19) Ts ?_
  rintro ⟨⟩ -
  try simp only [Ca,Na]
  refine qV (kF 118 J (v':=.tuple #[.agg #[.int .i64 ((opF x.ck o).1),.int .i64 ((opF x.ck o).2)],.int .i64 0]) (by rw [if_pos hyes,if_pos hyes]) ?_)
  refine qK J J J J (kX J J J J J (kX J J J J J (kR (j:=0) J J J J ζ'149 (us:=[_,_]) J J J Tk Az (by first | decide | (simp;done) | omega) ?_)))
  simp only [setL,List.set]
  refine qV (qR J J J J (qS (qW [0,3,4,5] (e':=[(0,_),(3,_),(4,_),(5,_)]) J ?_)))
  refine qQ (qL (qC (.q 0 (.q 1 (.q 2 (.q 3 (.q 4 ((.l 5 [] ((.l 6 [] (.done)))))))))) Kr ?_))
  refine qG (k:=2) J J J J υ'52 J ζ'3 J ?_
  refine qP (j:=2) J J J J α'3 Tk Az (by rfl) ?_
  refine qG (k:=0) J J J J υ'149 J ζ'3 J ?_
  refine qP (j:=0) J J J J α'3 Tk Az (by rfl) ?_
  refine kB J J J J (vs:=[_,_]) (kQ υ'153 ω'153 (ps:=[(0,1),(1,1)]) ⟨rfl,ζ'3,rfl,ζ'3,trivial⟩ rfl) ?_
  refine cY J J J ω'153 (zs:=[.int .i64 0,.int .i64 0]) J ?_
  intro b7
  refine qV (kR (j:=0) J J J J ζ'153 (us:=[_,_]) J J J Tk Az (by first | decide | (simp;done) | omega) ?_)
  simp only [setL,List.set]
  refine qV (qS (qW [0,3,4,7] (e':=[(0,_),(3,_),(4,_),(7,_)]) J ?_))
  refine qQ (qL ?_)
  obtain ⟨pp,hpp⟩:=cX (l:=pl) (i:=o.toNat) (by rw [← hpl];omega)
  refine s_rest_optH (G:=F4) (U:=x.rd) (S:=[]) (o,(opF x.ck o).1) Tk (by simp) ?_
  refine kM J (.q 0 (.q 1 (.q 2 (.q 3 (.q 4 (.q 5 (.q 6 (.q 7 (.q 8 (.q 9 (.q 10 (.q 11 (.q 12 (.q 14 (.q 15 (.q 16 (.q 17 (.q 18 (.q 19 (.q 20 (.q 21 ((.l 13 [3,4,17,19,21] (.q 22 ((.l 23 [] (.done))))))))))))))))))))))))))) Kr ?_
  refine qK J J J J (qZ J J J J (qG (k:=5) J J J J υ'86 J ζ'84 J ?_))
  refine qP (j:=5) J J J J α'84 Tk Az (by rfl) ?_
  refine kC J J J J α'153 ζ'153 Tk 0 (us:=[_,_]) Az J J ?_
  refine qK J J J J (qZ J J J J (qG (k:=5) J J J J υ'86 J ζ'84 J ?_))
  refine qP (j:=5) J J J J α'84 Tk Az (by rfl) ?_
  refine kC J J J J α'153 ζ'153 Tk 0 (us:=[_,_]) Az J J ?_
  refine rP (ek:=ek2) (ev1:=evH) (F:=F4) (m:=m4) (k:=(o,(opF x.ck o).1)) (none,0) J J J J J υ'84 (sH υ'153 J J J J υ'3 υ'3 α'3 α'3 Kr) ω'155 Tk ?_
  refine q_fld J J J J υ'155 J α'94 J ?_
  refine qK J J J J (qK J J J J (qZ J J J J (qG (k:=1) J J J J υ'86 J ζ'22 J ?_)))
  refine qP (j:=1) J J J J α'22 Tk Az (by rfl) ?_
  refine qG (k:=2) J J J J υ'52 J ζ'3 J ?_
  refine qP (j:=2) J J J J α'3 Tk Az (by rfl) ?_
  refine cK (sz:=0) (k:=o.toNat) (enc:=encZ) (xs:=pl) J J J J J υ'22 ζ'3 hpp Om Om Tk ?_
  intro ib146 io146 ha146 hl146 hc146
  refine cQ (v:=(.int .i64 pp)) (j:=0) (k':=o.toNat) (enc:=encZ) (off:=io146) J J J J α'3 ha146 encZ_len hpp Tk (by first | rfl | exact (Ad _).symm | omega) (by rfl) ?_
  have sp_20:=merged_spec (((F4 (o,(opF x.ck o).1)).getD (none,0)).1) ((x.rd (o,(opF x.ck o).1)).map (·.1)) (fun _=>map_fst_cv hx) tb l ta tc hlc
  refine qB J J J J J J κ'63 (sp_20) Ts ?_
  rintro ⟨mb,ma,mc⟩ -
  try simp only [Ca,Na]
  refine qM (q:=5) J J J α'84 Tk Az (by rfl) ?_
  refine kW J J (us:=[_,_]) J α'153 ζ'153 Tk 0 Az J J ?_
  refine qM (q:=1) J J J α'22 Tk Az (by rfl) ?_
  refine qM (q:=2) J J J α'3 Tk Az (by rfl) ?_
  refine ag_load_O (v:=(.int .i64 pp)) (j:=0) (k':=o.toNat) (enc:=encZ) (off:=io146) J J J α'3 ha146 encZ_len hpp Tk (by first | rfl | exact (Ad _).symm | omega) (by rfl) ?_
  refine qV (kB J J J J (vs:=[_,_]) (kQ υ'155 ω'155 (ps:=[(0,1),(1,1)]) ⟨rfl,ζ'94,rfl,ζ'3,trivial⟩ rfl) ?_)
  refine sX (ek:=ek2) (ev1:=evH) (F:=F4) (m:=m4) (k:=(o,(opF x.ck o).1)) (v:=((some ⟨mb,0,none⟩:Option Addr),pp)) (by first | exact .inl J | exact .inr J) J J J J υ'84 (sH υ'153 J J J J υ'3 υ'3 α'3 α'3 Kr) Tk ?_
  refine qV (qS (s_vecF mb ma mc (mgF ((x.rd (o,(opF x.ck o).1)).map (·.1)) l) Ts ?_))
  refine s_heldF (some ⟨mb,0,none⟩,pp) (mgF ((x.rd (o,(opF x.ck o).1)).map (·.1)) l,pp) Td J ?_
  refine sQ (F:=F4) (T:=x.rd) (S:=[]) (o,(opF x.ck o).1) (upd F4 (o,(opF x.ck o).1) (some (some ⟨mb,0,none⟩,pp))) (upd x.rd (o,(opF x.ck o).1) (some (mgF ((x.rd (o,(opF x.ck o).1)).map (·.1)) l,pp))) Ts (by simp) sL (fun q h _=>sD h) sL (fun q h _=>sD h) ?_
  refine qW [0,3,4] (e':=[(0,_),(3,_),(4,_)]) J ?_
  refine qQ (qC (.q 0 (.q 1 (.q 2 ((.l 3 [] (.done)))))) Kr ?_)
  refine qK J J J J (qG (k:=1) J J J J υ'52 J ζ'3 J ?_)
  refine qP (j:=1) J J J J α'3 Tk Az (by rfl) ?_
  have sp_21:=inc_z tb l ta l.length tc Ln hlc t Om Om (by exact hlt (by unfold relK;omega))
  refine qB J J J J J J κ'66 (sp_21) Ts ?_
  rintro ⟨ia,ic⟩ -
  try simp only [Ca,Na]
  refine qV (qS (s_vecF tb ia ic (icL l t.toNat) Ts ?_))
  refine sQ (F:=F1) (T:=x.th) (S:=[]) t F1 (upd x.th t (some (icL l t.toNat))) Ts (by simp) htF (fun _ _ _=>rfl) sL (fun q h _=>sD h) ?_
  refine qW [0,3] (e':=[(0,_),(3,_)]) J ?_
  refine kG (qQ (kM J (.q 0 (.q 1 (.q 2 (.q 3 (.q 4 ((.l 5 [] (.done)))))))) Kr ?_))
  refine qK J J J J (qZ J J J J (qG (k:=0) J J J J υ'86 J ζ'82 J ?_))
  refine qP (j:=0) J J J J α'82 Tk Az (by rfl) ?_
  refine kC J J J J α'52 ζ'52 Tk 0 (us:=[_,_,_]) Az J J ?_
  have sp_22:=Fe.next_spec pa pc cb x.ck hx.ck (by first | exact hn | omega) pl (hpl) k t o
  refine qB J J J J J J κ'69 (sp_22) Ts ?_
  rintro ⟨⟩ -
  try simp only [Ca,Na]
  refine qV (qS (qW [] (e':=[]) J ?_))
  refine sZ ?_
  refine vs_fold (b:=b) (vnF x k t o) (pa:=pa) (pc:=pc) (po:=po) (poc:=poc) (cb:=cb) (m1:=m1) (m2:=m2) (m3:=m3) (m4:=m4) Ts (by rw [vn9 hth k9,show x.ck.pa.getD o.toNat 0=pp from by rw [hpl];exact getD_some hpp]) (by rw [nx_pa]) ?_
  refine ret0 J (()) (by first | rfl | (first | rfl | (congr 1;done) | (congr 1 <;> first | rfl | omega | (simp;done) | (simp;omega)))) (by trivial) ?_
  exact Tf
 refine qL (qC (.q 0 (.q 1 (.done))) Kr ?_)
 refine qD J J J J J (cZ _ _ _ _) ?_
 refine qR J J J J (qS (qW [0,3,4,153] (e':=[(0,_),(3,_),(4,_),(153,_)]) J ?_))
 refine qQ ?_
 refine qF J (fun k7=>?_) (fun k7=>?_)
 ·
  refine qL ?_
  obtain ⟨q0,q1,q2⟩:=o7 k7
  have htl:=hx.ck.tl
  have hsth:=hsh.th
  refine qC (.q 0 ((.l 1 [] (.q 2 (.done))))) Kr ?_
  refine qK J J J J ?_
  have sp_23:=Vc.copy_spec tb l ta l.length tc (by rfl) Om
  refine qB J J J J J J κ'65 (sp_23) Ts ?_
  rintro ⟨ub,ua,uc⟩ -
  try simp only [Ca,Na]
  refine qV (qR J J J J (qS (qQ (qL (qC (.q 0 (.q 1 (.q 2 ((.l 3 [] (.done)))))) Kr ?_)))))
  refine qK J J J J (qG (k:=2) J J J J υ'52 J ζ'3 J ?_)
  refine qP (j:=2) J J J J α'3 Tk Az (by rfl) ?_
  have sp_24:=set_z ub l ua l.length uc Ln hlc o Om Om 1 (by decide) (by decide)
  refine qB J J J J J J Tryz.call68 (sp_24) Ts ?_
  rintro ⟨sa,sc⟩ -
  try simp only [Ca,Na]
  refine qV (qS (qW [0,3,4,8] (e':=[(0,_),(3,_),(4,_),(8,_)]) J ?_))
  refine qQ (qL ?_)
  have hne:o≠t:=by intro e;rw [e] at q2;exact can_th hc q2
  refine s_rest_opt (F:=F1) (T:=x.th) (S:=[t]) o Tk (by simpa using hne) fun hso=>?_
  refine kM J (.q 0 (.q 1 (.q 2 (.q 3 (.q 4 (.q 5 (.q 6 ((.l 7 [] (.done)))))))))) Kr ?_
  refine qK J J J J (qZ J J J J (qG (k:=2) J J J J υ'86 J ζ'83 J ?_))
  refine qP (j:=2) J J J J α'83 Tk Az (by rfl) ?_
  refine qG (k:=2) J J J J υ'52 J ζ'3 J ?_
  refine qP (j:=2) J J J J α'3 Tk Az (by rfl) ?_
  refine qK J J J J (sX (ek:=ekZ) (ev1:=evA) (F:=F1) (m:=m1) (k:=o) (v:=(some ⟨ub,0,none⟩:Option Addr)) (by first | exact .inl J | exact .inr J) J J J J υ'83 (cD υ'3) Tk ?_)
  refine qV (qS (s_vecF ub sa sc (stL l o.toNat 1) Ts ?_))
  refine sQ (F:=F1) (T:=x.th) (S:=[t]) o (upd F1 o (some (some ⟨ub,0,none⟩:Option Addr))) (upd x.th o (some (stL l o.toNat 1))) Ts (by simpa using hne) sL (fun q h _=>sD h) sL (fun q h _=>sD h) ?_
  refine qW [0,3,4] (e':=[(0,_),(3,_),(4,_)]) J ?_
  refine qQ (qC (.q 0 (.q 1 (.q 2 ((.l 3 [] (.done)))))) Kr ?_)
  refine qK J J J J (qG (k:=1) J J J J υ'52 J ζ'3 J ?_)
  refine qP (j:=1) J J J J α'3 Tk Az (by rfl) ?_
  have sp_25:=inc_z tb l ta l.length tc Ln hlc t Om Om (by exact hlt (by unfold relK;omega))
  refine qB J J J J J J κ'66 (sp_25) Ts ?_
  rintro ⟨ia,ic⟩ -
  try simp only [Ca,Na]
  refine qV (qS (s_vecF tb ia ic (icL l t.toNat) Ts ?_))
  refine sQ (F:=(upd F1 o (some (some ⟨ub,0,none⟩:Option Addr)))) (T:=(upd x.th o (some (stL l o.toNat 1)))) (S:=[]) t (upd F1 o (some (some ⟨ub,0,none⟩:Option Addr))) (upd (upd x.th o (some (stL l o.toNat 1))) t (some (icL l t.toNat))) Ts (by simp) ((sD (Ne.symm hne)).trans htF) (fun _ _ _=>rfl) sL (fun q h _=>sD h) ?_
  refine qW [0,3] (e':=[(0,_),(3,_)]) J ?_
  refine kG (qQ (kM J (.q 0 (.q 1 (.q 2 (.q 3 (.q 4 ((.l 5 [] (.done)))))))) Kr ?_))
  refine qK J J J J (qZ J J J J (qG (k:=0) J J J J υ'86 J ζ'82 J ?_))
  refine qP (j:=0) J J J J α'82 Tk Az (by rfl) ?_
  refine kC J J J J α'52 ζ'52 Tk 0 (us:=[_,_,_]) Az J J ?_
  have sp_26:=Fe.next_spec pa pc cb x.ck hx.ck (by first | exact hn | omega) pl (hpl) k t o
  refine qB J J J J J J κ'69 (sp_26) Ts ?_
  rintro ⟨⟩ -
  try simp only [Ca,Na]
  refine qV (qS (qW [] (e':=[]) J ?_))
  refine sZ ?_
  refine vs_fold (b:=b) (vnF x k t o) (pa:=pa) (pc:=pc) (po:=po) (poc:=poc) (cb:=cb) (m1:=m1) (m2:=m2) (m3:=m3) (m4:=m4) Ts (by exact vn7 hth k7) (by rw [nx_pa]) ?_
  refine ret0 J (()) (by first | rfl | (first | rfl | (congr 1;done) | (congr 1 <;> first | rfl | omega | (simp;done) | (simp;omega)))) (by trivial) ?_
  exact Tf
 refine qH (kG (qQ (s_vecF tb ta tc l Ts ?_)))
 refine sQ (F:=F1) (T:=x.th) (S:=[]) t F1 x.th Ts (by simp) htF (fun _ _ _=>rfl) hth (fun _ _ _=>rfl) ?_
 refine kM J (.q 0 (.q 1 (.q 2 (.q 3 (.q 4 ((.l 5 [] (.done)))))))) Kr ?_
 refine qK J J J J (qZ J J J J (qG (k:=0) J J J J υ'86 J ζ'82 J ?_))
 refine qP (j:=0) J J J J α'82 Tk Az (by rfl) ?_
 refine kC J J J J α'52 ζ'52 Tk 0 (us:=[_,_,_]) Az J J ?_
 have sp_27:=Fe.next_spec pa pc cb x.ck hx.ck (by first | exact hn | omega) pl (hpl) k t o
 refine qB J J J J J J κ'69 (sp_27) Ts ?_
 rintro ⟨⟩ -
 try simp only [Ca,Na]
 refine qV (qS (qW [] (e':=[]) J ?_))
 refine sZ ?_
 refine vs_fold (b:=b) (vnF x k t o) (pa:=pa) (pc:=pc) (po:=po) (poc:=poc) (cb:=cb) (m1:=m1) (m2:=m2) (m3:=m3) (m4:=m4) Ts (by exact vn0 k5 k3 k8 k10 k6 k4 k9 k7) (by rw [nx_pa]) ?_
 refine ret0 J (()) (by first | rfl | (first | rfl | (congr 1;done) | (congr 1 <;> first | rfl | omega | (simp;done) | (simp;omega)))) (by trivial) ?_
 exact Tf
end Go.Ab.Dj
set_option linter.unusedVariables false
set_option linter.unusedSimpArgs false
set_option maxRecDepth 100000
namespace Go.Ab.Dj
open Go Go.Proofs Go.Ab Go.Ab.Fe Go.Ab.Vc
theorem count_set {α:Type} {p:α→Bool} {b:α}:∀ {l:List α} {i:Nat} {a:α},l[i]?=some a→(l.set i b).countP p+(if p a then 1 else 0)=l.countP p+(if p b then 1 else 0)
  | [],i,a,h=>by simp at h
  | c::l,0,a,h=>by
    simp at h;subst h
    simp only [List.set_cons_zero,List.countP_cons]
    omega
  | c::l,i+1,a,h=>by
    simp at h
    have:=count_set (p:=p) (b:=b) h
    simp only [List.set_cons_succ,List.countP_cons]
    omega
theorem upd_some {κ ν:Type} [DecidableEq κ] {T:κ→Option ν} {k q:κ} {v:Option ν} {l:ν} (h:upd T k v q=some l):(q=k∧v=some l)∨(q≠k∧T q=some l):=by
  unfold upd at h
  split at h
  · rename_i e;exact .inl ⟨e,h⟩
  · rename_i e;exact .inr ⟨e,h⟩
theorem mg_cv {m:Option (List Int)} {l:List Int} (hl:CV l) (h:∀ q,m=some q→CV q):CV (mgF m l):=by
  cases m with
  | none=>exact hl
  | some q=>exact jn_cv hl (h q rfl)
theorem wtN_set {c:CS} {th va vo lk:Int} {pa O:List Int} {B:List T2} {n:Int} {i:Nat} {s s':T3} (hs:c.T[i]?=some s) (b r:Int) :
    wtN ⟨th,va,vo,lk,pa,c.T.set i s',O,B,n⟩ b r+(if s=(2,b,r) then 1 else 0)=wtN c b r+(if s'=(2,b,r) then 1 else 0):=by
  have:=count_set (p:=fun s=>decide (s=(2,b,r))) (b:=s') hs
  simpa [wtN] using this
theorem wtN_zero {c:CS} (hc:CInv c) {b r:Int} (h:(opF c b).1 < r):wtN c b r=0:=by
  unfold wtN
  rw [List.countP_eq_zero]
  intro s hs h2
  have h3:=of_decide_eq_true h2
  have h4:=(hc.st s hs).2.2.1 (by rw [h3])
  rw [h3] at h4
  simp at h4;omega
theorem opF_set {c:CS} {th va vo lk:Int} {pa O:List Int} {T:List T3} {n:Int} {o:Int} {v:T2} (h0:0≤o) (h:o.toNat < c.B.length) {b:Int} (hb:0≤b):opF ⟨th,va,vo,lk,pa,T,O,c.B.set o.toNat v,n⟩ b=if b=o then v else opF c b:=by
  unfold opF
  show (c.B.set o.toNat v).getD b.toNat _=_
  rw [getD_set h]
  by_cases e:b=o
  · subst e;rw [if_pos rfl,if_pos rfl]
  · rw [if_neg e,if_neg Om]
theorem icD_cv {x:VS} (hx:VInv x) {k t o:Int} (hvc:vcanF x k t o) (hk:relK k) {l:List Int} (hth:x.th t=some l):CV (icL l t.toNat):=by
  obtain ⟨h0,h1⟩:=th_rng hx (can_th hvc.1)
  have:=hvc.2 hk
  rw [thF_eq hth] at this
  exact icL_cv (hx.thc _ _ hth) Om this
theorem pres {x:CS} (hx:CInv x) {k t o:Int} (hc:canF x k t o) (u:Int):(stF (nxF x k t o) u).1≠0↔(stF x u).1≠0∨(k=7∧u=o):=by
  obtain ⟨n5,n6,n7,n9,n10,n11,nn⟩:=nxF_k hc
  obtain ⟨o5,o7,o9,o10,o11⟩:=can_obj hx hc
  obtain ⟨t0,t1,t2⟩:=stF_nz (can_th hc)
  have hth:=can_th hc
  by_cases k5:k=5
  · rw [n5 k5];show (stF x u).1≠0↔_;omega
  by_cases k6:k=6
  · rw [n6 k6];show (stF x u).1≠0↔_;omega
  by_cases k7:k=7
  · obtain ⟨p0,p1,p2⟩:=o7 k7
    rw [n7 k7,stF_set p0 p1 rfl]
    split
    · rename_i e;simp [k7,e]
    · rename_i e;simp [e]
  by_cases k9:k=9
  · rw [n9 k9,stF_set t0 t1 rfl]
    split
    · rename_i e;subst e;simp [hth]
    · rename_i e;simp [k7]
  by_cases k10:k=10
  · rw [n10 k10,stF_set t0 t1 rfl]
    split
    · rename_i e;subst e;simp [hth]
    · rename_i e;simp [k7]
  by_cases k11:k=11
  · rw [n11 k11,stF_set t0 t1 rfl]
    split
    · rename_i e;subst e;simp [hth]
    · rename_i e;simp [k7]
  rw [nn k5 k6 k7 k9 k10 k11];show (stF x u).1≠0↔_;omega
theorem isS_upd {T:Int→Option (List Int)} {t u:Int} {l:List Int}:(upd T t (some l) u).isSome=true↔u=t∨(T u).isSome=true:=by
  unfold upd
  split
  · rename_i e;simp [e]
  · rename_i e;simp [e]
/-- The threads' counts behind an event. -/
theorem wt_next {x:CS} (hx:CInv x) {k t o:Int} (hc:canF x k t o) (b r:Int) :
    (k=9→wtN (nxF x k t o) b r=wtN x b r+(if b=o∧r=(opF x o).1 then 1 else 0)) ∧
    (k=10→wtN (nxF x k t o) b r+(if b=o∧r=(stF x t).2.2 then 1 else 0)=wtN x b r) ∧
    (k≠9→k≠10→wtN (nxF x k t o) b r=wtN x b r):=by
  obtain ⟨n5,n6,n7,n9,n10,n11,nn⟩:=nxF_k hc
  obtain ⟨o5,o7,o9,o10,o11⟩:=can_obj hx hc
  obtain ⟨t0,t1,t2⟩:=stF_nz (can_th hc)
  have hth:=can_th hc
  refine ⟨fun k9=>?_,fun k10=>?_,fun k9 k10=>?_⟩
  · rw [n9 k9]
    have h:=wtN_set (th:=x.th) (va:=x.va) (vo:=x.vo) (lk:=x.lk) (pa:=x.pa) (O:=x.O) (B:=x.B.set o.toNat (arrF (opF x o) (x.pa.getD o.toNat 0))) (n:=x.n+1) (s':=(2,o,(opF x o).1)) t2 b r
    rw [if_neg (fun e=>by have:=(o9 k9).2.2.2;rw [e] at this;simp at this)] at h
    rw [Ad] at h
    rw [h]
    by_cases e:b=o∧r=(opF x o).1
    · rw [if_pos e,if_pos (by rw [e.1,e.2])]
    · rw [if_neg e,if_neg (fun h=>e (by simp at h;exact ⟨h.1.symm,h.2.symm⟩))]
  · rw [n10 k10]
    have h:=wtN_set (th:=x.th) (va:=x.va) (vo:=x.vo) (lk:=x.lk) (pa:=x.pa) (O:=x.O) (B:=x.B) (n:=x.n+1) (s':=(1,0,0)) t2 b r
    rw [if_neg (c:=((1:Int),(0:Int),(0:Int))=(2,b,r)) (by simp),Ad] at h
    rw [← h]
    obtain ⟨q1,q2,q3⟩:=o10 k10
    by_cases e:b=o∧r=(stF x t).2.2
    · rw [if_pos e,if_pos (by rw [e.1,e.2,q3,← q1])]
    · rw [if_neg e,if_neg (fun h=>e (by rw [q3,h];exact ⟨rfl,rfl⟩))]
  · by_cases k5:k=5
    · rw [n5 k5];rfl
    by_cases k6:k=6
    · rw [n6 k6];rfl
    by_cases k7:k=7
    · obtain ⟨p0,p1,p2⟩:=o7 k7
      rw [n7 k7]
      have h:=wtN_set (th:=x.th) (va:=x.va) (vo:=x.vo) (lk:=x.lk) (pa:=x.pa) (O:=x.O) (B:=x.B) (n:=x.n+1) (s':=(1,0,0)) (stF_at (x:=x) p0 Om) b r
      rw [if_neg (c:=((1:Int),(0:Int),(0:Int))=(2,b,r)) (by simp),if_neg (fun e=>by rw [e] at p2;simp at p2)] at h
      omega
    by_cases k11:k=11
    · rw [n11 k11]
      have h:=wtN_set (th:=x.th) (va:=x.va) (vo:=x.vo) (lk:=x.lk) (pa:=x.pa) (O:=x.O) (B:=x.B) (n:=x.n+1) (s':=(3,0,0)) t2 b r
      rw [if_neg (c:=((3:Int),(0:Int),(0:Int))=(2,b,r)) (by simp),if_neg (fun e=>by have:=o11 k11;rw [e] at this;simp at this)] at h
      omega
    rw [nn k5 k6 k7 k9 k10 k11];rfl
theorem opF_next {x:CS} (hx:CInv x) {k t o:Int} (hc:canF x k t o) {b:Int} (hb:0≤b):opF (nxF x k t o) b=if k=9∧b=o then arrF (opF x o) (x.pa.getD o.toNat 0) else opF x b:=by
  obtain ⟨n5,n6,n7,n9,n10,n11,nn⟩:=nxF_k hc
  obtain ⟨o5,o7,o9,o10,o11⟩:=can_obj hx hc
  by_cases k9:k=9
  · obtain ⟨p0,p1,p2,p3⟩:=o9 k9
    rw [n9 k9,opF_set p0 p1 hb]
    by_cases e:b=o
    · rw [if_pos e,if_pos ⟨k9,e⟩]
    · rw [if_neg e,if_neg (fun h=>e h.2)]
  rw [if_neg (fun h=>k9 h.1)]
  by_cases k5:k=5
  · rw [n5 k5];rfl
  by_cases k6:k=6
  · rw [n6 k6];rfl
  by_cases k7:k=7
  · rw [n7 k7];rfl
  by_cases k10:k=10
  · rw [n10 k10];rfl
  by_cases k11:k=11
  · rw [n11 k11];rfl
  rw [nn k5 k6 k7 k9 k10 k11];rfl
theorem nx_B {x:CS} (hx:CInv x) {k t o:Int} (hc:canF x k t o):(nxF x k t o).B.length=x.B.length:=by
  rw [(next_inv hx k t o).bl,hx.bl,nx_pa]
theorem vn_ck {x:VS} {k t o:Int}:(vnF x k t o).ck=nxF x.ck k t o:=by
  unfold vnF
  repeat (split;· rfl)
  rfl
/-- The rounds behind an event. -/
theorem vn_rd {x:VS} {k t o:Int}:(vnF x k t o).rd=if k=10 then upd x.rd (rdK x t o) (if (rdF x (rdK x t o)).2 - 1≤0 then none else some ((rdF x (rdK x t o)).1,(rdF x (rdK x t o)).2 - 1))
    else if k=9 then upd x.rd (o,(opF x.ck o).1) (some (mgF ((x.rd (o,(opF x.ck o).1)).map (·.1)) (thF x t),x.ck.pa.getD o.toNat 0)) else x.rd:=by
  unfold vnF
  by_cases k5:k=5
  · simp [k5]
  by_cases k3:k=3
  · simp [k3]
  by_cases k8:k=8
  · simp [k8]
  by_cases k10:k=10
  · simp [k10]
  by_cases k6:k=6
  · simp [k6]
  by_cases k4:k=4
  · simp [k4]
  by_cases k9:k=9
  · simp [k9]
  by_cases k7:k=7
  · simp [k7]
  simp [*]
theorem next_vinv {x:VS} (hx:VInv x) {k t o:Int} (hvc:vcanF x k t o):VInv (vnF x k t o):=by
  have hc:=hvc.1
  obtain ⟨l,hth⟩:=th_some hx (can_th hc)
  have hlc:=hx.thc _ _ hth
  obtain ⟨o5,o7,o9,o10,o11⟩:=can_obj hx.ck hc
  have hts:(x.th t).isSome=true:=by rw [hth];rfl
  have hic:relK k→CV (icL l t.toNat):=fun h=>icD_cv hx hvc h hth
  have hpp:k=9→1≤x.ck.pa.getD o.toNat 0∧x.ck.pa.getD o.toNat 0≤65535:=fun k9=>by
    obtain ⟨pp,hp⟩:=cX (o9 k9).2.2.1
    rw [getD_some hp];exact hx.ck.sh.pa pp (List.mem_of_getElem? hp)
  refine ⟨by rw [vn_ck];exact next_inv hx.ck k t o,fun u=>?_,?_,?_,?_,fun r p h=>?_,fun r p h=>?_,fun b r=>?_,fun b hb0 hb1=>?_⟩
  · rw [vn_ck,pres hx.ck hc u,← hx.th u]
    by_cases k5:k=5
    · rw [vn5 hth k5,isS_upd];constructor
      · rintro (rfl | h) <;> simp_all
      · rintro (h | h)
        · exact .inr h
        · omega
    by_cases k3:k=3
    · rw [vn3 hth k3,isS_upd];constructor
      · rintro (rfl | h) <;> simp_all
      · rintro (h | h)
        · exact .inr h
        · omega
    by_cases k8:k=8
    · rw [vn8 hth k8,isS_upd];constructor
      · rintro (rfl | h) <;> simp_all
      · rintro (h | h)
        · exact .inr h
        · omega
    by_cases k10:k=10
    · rw [vn10 hth k10,dpF,isS_upd];constructor
      · rintro (rfl | h) <;> simp_all
      · rintro (h | h)
        · exact .inr h
        · omega
    by_cases k6:k=6
    · rw [vn6 hth k6,isS_upd];constructor
      · rintro (rfl | h) <;> simp_all
      · rintro (h | h)
        · exact .inr h
        · omega
    by_cases k4:k=4
    · rw [vn4 hth k4,isS_upd];constructor
      · rintro (rfl | h) <;> simp_all
      · rintro (h | h)
        · exact .inr h
        · omega
    by_cases k9:k=9
    · rw [vn9 hth k9,isS_upd];constructor
      · rintro (rfl | h) <;> simp_all
      · rintro (h | h)
        · exact .inr h
        · omega
    by_cases k7:k=7
    · rw [vn7 hth k7,isS_upd,isS_upd];constructor
      · rintro (rfl | rfl | h) <;> simp_all
      · rintro (h | h)
        · exact .inr (.inr h)
        · exact .inr (.inl h.2)
    rw [vn0 k5 k3 k8 k10 k6 k4 k9 k7];simp [k7]
  · intro u q h
    have key:∀ {v:List Int},CV v→upd x.th t (some v) u=some q→CV q:=fun hv h=>by
      rcases upd_some h with ⟨-,h⟩ | ⟨-,h⟩
      · cases h;exact hv
      · exact hx.thc _ _ h
    by_cases k5:k=5
    · rw [vn5 hth k5] at h;exact key (mg_cv hlc (hx.lkc _)) h
    by_cases k3:k=3
    · rw [vn3 hth k3] at h;exact key (mg_cv hlc (hx.voc _)) h
    by_cases k8:k=8
    · rw [vn8 hth k8] at h;exact key (mg_cv hlc (hx.thc _)) h
    by_cases k10:k=10
    · rw [vn10 hth k10,dpF,thF_eq hth] at h
      obtain ⟨p,hp,-⟩:=rd_some hx (o10 k10).1 (o10 k10).2.2
      refine key (jn_cv hlc ?_) h
      rw [rdF,hp];exact hx.rdc _ _ hp
    by_cases k6:k=6
    · rw [vn6 hth k6] at h;exact key (hic (by unfold relK;omega)) h
    by_cases k4:k=4
    · rw [vn4 hth k4] at h;exact key (hic (by unfold relK;omega)) h
    by_cases k9:k=9
    · rw [vn9 hth k9] at h;exact key (hic (by unfold relK;omega)) h
    by_cases k7:k=7
    · rw [vn7 hth k7] at h
      obtain ⟨p0,p1,p2⟩:=o7 k7
      have h3:=hx.ck.tl
      have h4:=hx.ck.sh.th
      rcases upd_some h with ⟨-,h⟩ | ⟨-,h⟩
      · cases h;exact hic (by unfold relK;omega)
      · rcases upd_some h with ⟨-,h⟩ | ⟨-,h⟩
        · cases h;exact stL_cv hlc Om (by decide) (by decide)
        · exact hx.thc _ _ h
    rw [vn0 k5 k3 k8 k10 k6 k4 k9 k7] at h;exact hx.thc _ _ h
  · intro u q h
    by_cases k6:k=6
    · rw [vn6 hth k6] at h
      rcases upd_some h with ⟨-,h⟩ | ⟨-,h⟩
      · cases h;exact hlc
      · exact hx.lkc _ _ h
    have e:(vnF x k t o).lk=x.lk:=by
      unfold vnF
      rw [if_neg k6]
      repeat (split;· rfl)
      rfl
    rw [e] at h;exact hx.lkc _ _ h
  · intro u q h
    by_cases k4:k=4
    · rw [vn4 hth k4] at h
      rcases upd_some h with ⟨-,h⟩ | ⟨-,h⟩
      · cases h;exact mg_cv hlc (hx.voc _)
      · exact hx.voc _ _ h
    have e:(vnF x k t o).vo=x.vo:=by
      unfold vnF
      rw [if_neg k4]
      repeat (split;· rfl)
      rfl
    rw [e] at h;exact hx.voc _ _ h
  · rw [vn_rd] at h
    split at h
    · rename_i k10
      rcases upd_some h with ⟨-,h⟩ | ⟨-,h⟩
      · obtain ⟨p2,hp,-⟩:=rd_some hx (o10 k10).1 (o10 k10).2.2
        split at h
        · cases h
        · cases h
          show CV (rdF x (rdK x t o)).1
          rw [rdK,rdF,hp];exact hx.rdc _ _ hp
      · exact hx.rdc _ _ h
    · split at h
      · rcases upd_some h with ⟨-,h⟩ | ⟨-,h⟩
        · cases h
          show CV (mgF _ _)
          rw [thF_eq hth]
          exact mg_cv hlc fun q hq=>map_fst_cv hx hq
        · exact hx.rdc _ _ h
      · exact hx.rdc _ _ h
  · rw [vn_rd] at h
    split at h
    · rename_i k10
      rcases upd_some h with ⟨-,h⟩ | ⟨-,h⟩
      · obtain ⟨p2,hp,-⟩:=rd_some hx (o10 k10).1 (o10 k10).2.2
        have h5:=hx.rds _ _ hp
        split at h
        · cases h
        · rename_i h6
          cases h
          have h7:rdF x (rdK x t o)=p2:=by rw [rdK,rdF,hp];rfl
          rw [h7] at h6 ⊢
          exact ⟨by show 0≤p2.2 - 1;omega,by show p2.2 - 1≤65535;omega⟩
      · exact hx.rds _ _ h
    · split at h
      · rename_i k9
        rcases upd_some h with ⟨-,h⟩ | ⟨-,h⟩
        · cases h
          have:=hpp k9
          exact ⟨by show 0≤x.ck.pa.getD _ _;omega,this.2⟩
        · exact hx.rds _ _ h
      · exact hx.rds _ _ h
  · rw [vn_ck]
    obtain ⟨w9,w10,w0⟩:=wt_next hx.ck hc b r
    have h1:=hx.wt b r
    rw [rdF,vn_rd]
    by_cases k10:k=10
    · rw [if_pos k10]
      have hw:=w10 k10
      by_cases e:b=o∧r=(stF x.ck t).2.2
      · rw [if_pos e] at hw
        have e2:((b,r):Int × Int)=rdK x t o:=by rw [rdK,e.1,e.2]
        rw [e2] at h1 ⊢
        rw [sL]
        split
        · simp;omega
        · simp;omega
      · rw [if_neg e] at hw
        have e2:((b,r):Int × Int)≠rdK x t o:=fun h=>e (by rw [rdK] at h;simp at h;exact h)
        rw [sD e2]
        show _≤(rdF x (b,r)).2
        omega
    · rw [if_neg k10]
      by_cases k9:k=9
      · rw [if_pos k9]
        have hw:=w9 k9
        by_cases e:b=o∧r=(opF x.ck o).1
        · rw [if_pos e] at hw
          have e2:((b,r):Int × Int)=(o,(opF x.ck o).1):=by rw [e.1,e.2]
          rw [e2,sL]
          obtain ⟨p0,p1,p2,p3⟩:=o9 k9
          obtain ⟨pp,hp⟩:=cX p2
          have h2:=hx.wo o p0 Om
          have h3:=hx.ck.op _ _ _ (opF_at (x:=x.ck) p0 Om) hp
          rw [getD_some hp]
          rw [e.1,e.2] at hw
          rw [e.1,e.2]
          show _≤pp
          omega
        · rw [if_neg e] at hw
          have e2:((b,r):Int × Int)≠(o,(opF x.ck o).1):=fun h=>e (by simp at h;exact h)
          rw [sD e2]
          show _≤(rdF x (b,r)).2
          omega
      · rw [if_neg k9,w0 k9 k10];exact h1
  · rw [vn_ck] at hb1 ⊢
    rw [nx_B hx.ck hc] at hb1
    have h1:=hx.wo b hb0 hb1
    rw [opF_next hx.ck hc hb0]
    by_cases e:k=9∧b=o
    · rw [if_pos e]
      obtain ⟨k9,rfl⟩:=e
      obtain ⟨p0,p1,p2,p3⟩:=o9 k9
      obtain ⟨pp,hp⟩:=cX p2
      rw [getD_some hp]
      unfold arrF
      split
      · have hz:=wtN_zero hx.ck (b:=b) (r:=(opF x.ck b).1+1) Om
        have hw:=(wt_next hx.ck hc b ((opF x.ck b).1+1)).1 k9
        rw [if_neg Om] at hw
        simp;omega
      · have hw:=(wt_next hx.ck hc b (opF x.ck b).1).1 k9
        rw [if_pos ⟨rfl,rfl⟩] at hw
        simp;omega
    · rw [if_neg e]
      obtain ⟨w9,w10,w0⟩:=wt_next hx.ck hc b (opF x.ck b).1
      by_cases k9:k=9
      · have hw:=w9 k9
        rw [if_neg (fun h=>e ⟨k9,h.1⟩)] at hw
        omega
      · by_cases k10:k=10
        · have hw:=w10 k10
          omega
        · rw [w0 k9 k10];exact h1
end Go.Ab.Dj
set_option linter.unusedVariables false
set_option linter.unusedSimpArgs false
set_option maxRecDepth 100000
namespace Go.Ab.Rv
open Go Go.Proofs Go.Ab Go.Ab.Vc
theorem getD_of {l:List Int} {k:Nat} {x:Int} (h:l[k]?=some x):l.getD k 0=x:=by rw [List.getD_eq_getElem?_getD,h];rfl
theorem getD_no {l:List Int} {k:Nat} (h:l.length≤k):l.getD k 0=0:=by rw [List.getD_eq_getElem?_getD,List.getElem?_eq_none h];rfl
theorem app_getD (l:List Int) (n k:Nat):(l++List.replicate n (0:Int)).getD k 0=l.getD k 0:=by
  simp only [List.getD_eq_getElem?_getD]
  rcases Nat.lt_or_ge k l.length with h | h
  · rw [List.getElem?_append_left h]
  · rw [List.getElem?_append_right h,List.getElem?_eq_none h,List.getElem?_replicate];split <;> rfl
def withL (l:List Int) (i:Nat) (x:Int):List Int:=(l++List.replicate (i+1 - l.length) 0).set i x
theorem with_g (l:List Int) (i:Nat) (x:Int) (k:Nat):(withL l i x).getD k 0=if k=i then x else l.getD k 0:=by
  unfold withL
  have hl:i < (l++List.replicate (i+1 - l.length) (0:Int)).length:=by simp;omega
  by_cases h:k=i
  · subst h
    rw [if_pos rfl,List.getD_eq_getElem?_getD,List.getElem?_set_self hl];rfl
  · rw [if_neg h,List.getD_eq_getElem?_getD,List.getElem?_set_ne (Ne.symm h),← List.getD_eq_getElem?_getD,app_getD]
/-- A list as long as may be, of clocks. -/
def OkV (l:List Int):Prop:=l.length≤65535∧∀ x∈l,0≤x∧x≤maxC
theorem ok_cv {l:List Int} (h:OkV l):CV (tr l):=tr_cv h.1 h.2
theorem ok_g {l:List Int} (h:OkV l) (k:Nat):0≤l.getD k 0∧l.getD k 0≤maxC:=by
  rcases Nat.lt_or_ge k l.length with h1 | h1
  · obtain ⟨x,hx⟩:=cX h1
    rw [getD_of hx];exact h.2 x (List.mem_of_getElem? hx)
  · rw [getD_no h1];decide
theorem ok_nil:OkV []:=⟨by decide,fun x h=>by cases h⟩
theorem ok_with {l:List Int} (h:OkV l) {i:Nat} (hi:i < 65535) {x:Int} (h0:0≤x) (h1:x≤maxC):OkV (withL l i x):=by
  unfold withL
  refine ⟨by simp;have:=h.1;omega,fun y hy=>?_⟩
  rcases List.mem_or_eq_of_mem_set hy with hy | rfl
  · rcases List.mem_append.1 hy with hy | hy
    · exact h.2 y hy
    · rw [(List.mem_replicate.1 hy).2];decide
  · exact ⟨h0,h1⟩
theorem tr_with {l:List Int} (h:OkV l) {i:Nat} (hi:i < 65535) {x:Int} (h0:0≤x) (h1:x≤maxC):tr (withL l i x)=stL (tr l) i x :=
  Tr_ext (tr_Tr _) (stL_cv (ok_cv h) hi h0 h1).tr fun k=>by rw [tr_g,with_g,stL_g,tr_g]
theorem ic_st {l:List Int} {t:Nat} (hl:CV l) (ht:t < 65535) (h:l.getD t 0 < maxC):stL l t (l.getD t 0+1)=icL l t:=by
  have hg:=g_rng hl.rng (by decide) t
  exact Tr_ext (stL_cv hl ht Om Om).tr (icL_cv hl ht h).tr fun k=>by rw [stL_g,icL_g]
/-- The first i clocks of m have been joined into l. -/
def JnI (l m v:List Int) (i:Nat):Prop:=∀ k:Nat,v.getD k 0=if k < i then max (l.getD k 0) (m.getD k 0) else l.getD k 0
theorem JnI_zero (l m:List Int):JnI l m l 0:=fun k=>by rw [if_neg Om]
theorem JnI_skip {l m v:List Int} {i:Nat} (h:JnI l m v i) (hle:m.getD i 0≤v.getD i 0):JnI l m v (i+1):=fun k=>by
  have h1:=h k
  have h2:=h i
  rw [if_neg Om] at h2
  by_cases e:k=i
  · subst e;rw [if_pos Om,h2];omega
  · rw [h1]
    by_cases e2:k < i
    · rw [if_pos e2,if_pos Om]
    · rw [if_neg e2,if_neg Om]
theorem JnI_put {l m v:List Int} {i:Nat} (h:JnI l m v i) (hlt:v.getD i 0 < m.getD i 0):JnI l m (withL v i (m.getD i 0)) (i+1):=fun k=>by
  have h2:=h i
  rw [if_neg Om] at h2
  rw [with_g]
  by_cases e:k=i
  · subst e;rw [if_pos rfl,if_pos Om];omega
  · rw [if_neg e,h k]
    by_cases e2:k < i
    · rw [if_pos e2,if_pos Om]
    · rw [if_neg e2,if_neg Om]
theorem JnI_end {l m v:List Int} {i:Nat} (hl:OkV l) (hm:OkV m) (hv:OkV v) (h:JnI l m v i) (hi:m.length≤i):tr v=jn (tr l) (tr m) :=
  Tr_ext (tr_Tr _) (jn_cv (ok_cv hl) (ok_cv hm)).tr fun k=>by
    rw [tr_g,jn_g (ok_cv hl) (ok_cv hm),tr_g,tr_g,h k]
    split
    · rfl
    · rw [getD_no (l:=m) Om]
      have:=(ok_g hl k).1
      omega
/-- A vector at b: its list may end in zeros. -/
def ckB (b:Nat) (t:List Int):HProp:=fun h=>∃ ao cap l,OkV l∧tr l=t∧Sat [cells b 0 [.slice ao l.length cap],own 1 encU ao cap l] h
def ckA (a:Option Addr) (t:List Int):HProp:=fun h=>∃ b,a=some ⟨b,0,none⟩∧ckB b t h
def optR (a:Option Addr) (m:Option (List Int)):HProp:=match m with | none=>fun _=>a=none | some t=>ckA a t
section
variable {w0:World} {ds:List Deferred} {n:Nat} {e:Env} {Γ Γ':List HProp} {X:Act→World→Prop}
theorem ck_open {b:Nat} {t:List Int} (tk:Take Γ (ckB b t) Γ') (k:∀ ao cap l,OkV l→tr l=t→Le (St w0 ds n e (cells b 0 [.slice ao l.length cap]::own 1 encU ao cap l::Γ')) X):Le (St w0 ds n e Γ) X:=fun x w s=>by
  obtain ⟨h1,l1,⟨ao,cap,l,ho,ht,a1⟩,s1⟩:=tk _ s.heap
  exact k ao cap l ho ht x w ⟨s.defers,s.size,s.env,Bun.unfold ⟨h1,l1,a1,s1⟩,s.amb⟩
theorem ck_fold {b:Nat} {ao:Option Addr} {cap m:Nat} {l:List Int} (t:List Int) (tk:Takes Γ [cells b 0 [.slice ao m cap],own 1 encU ao cap l] Γ') (hm:m=l.length) (ho:OkV l) (ht:tr l=t) (k:Le (St w0 ds n e (ckB b t::Γ')) X):Le (St w0 ds n e Γ) X:=cL (fun h s=>by
  subst hm
  obtain ⟨h1,l1,a1,s1⟩:=Bun.fold (tk h s)
  exact ⟨h1,l1,⟨ao,cap,l,ho,ht,a1⟩,s1⟩) k
theorem ck_a {a:Option Addr} {t:List Int} (tk:Take Γ (ckA a t) Γ') (k:∀ b,a=some ⟨b,0,none⟩→Le (St w0 ds n e (ckB b t::Γ')) X):Le (St w0 ds n e Γ) X:=fun x w s=>by
  obtain ⟨h1,l1,⟨b,ha,a1⟩,s1⟩:=tk _ s.heap
  exact k b ha x w ⟨s.defers,s.size,s.env,⟨h1,l1,a1,s1⟩,s.amb⟩
theorem ck_aF {b:Nat} {t:List Int} (tk:Take Γ (ckB b t) Γ') (k:Le (St w0 ds n e (ckA (some ⟨b,0,none⟩) t::Γ')) X):Le (St w0 ds n e Γ) X:=cL (fun h s=>by
  obtain ⟨h1,l1,a1,s1⟩:=tk _ s
  exact ⟨h1,l1,⟨b,rfl,a1⟩,s1⟩) k
end
theorem new_spec:Spec Tryz.prog 32 [] [] (fun (r:Nat)=>.pointer (some ⟨r,0,none⟩)) (fun r=>True) (fun r=>[ckB r []]):=by
 refine kS (n:=3) Tryz.func32 J J J ?_
 intro Γ w0
 simp only [argE,Ca,Na,Zd,Nat.reduceAdd]
 refine qL (qC (.q 0 (.done)) Kr ?_)
 refine qR J J J J (qS (qQ (qL (qC (.q 0 ((.l 1 [] (.q 2 (.done))))) Kr ?_))))
 refine kB J J J J (vs:=[_]) (kQ υ'168 Tryz.zeroValue168 (ps:=[(0,1)]) ⟨rfl,ζ'159,trivial⟩ rfl) ?_
 refine sG J J J J (us:=[_]) J ?_
 intro b2
 refine qV (qR J J J J (qS (qQ (qJ (cL (fun _ h=>sY (sz:=1) (enc:=encU) h) ?_)))))
 refine ck_fold (b:=b2) (ao:=none) (cap:=0) (l:=[]) ([]:List Int) Ts (by first | rfl | simp) ok_nil J ?_
 refine cR J J (b2) (by first | rfl | (first | rfl | (congr 1;done) | (congr 1 <;> first | rfl | omega | (simp;done) | (simp;omega)))) (by trivial) ?_
 exact Tf
theorem may_spec (i:Nat) (hi:i < 65535):Spec Tryz.prog 75 [.int .i64 ((i:Nat):Int)] [] (fun (_:Unit)=>.bool true) (fun _=>True) (fun _=>[]):=by
 refine kS (n:=9) Tryz.func75 J J J ?_
 intro Γ w0
 simp only [argE,Ca,Na,Zd,Nat.reduceAdd]
 refine qL (qC (.q 0 (.done)) Kr ?_)
 refine qR J J J J (qS (qQ (qL (qC (.q 0 (.q 1 (.q 2 (.q 3 (.q 4 (.q 5 (.q 6 (.done)))))))) Kr ?_))))
 refine qK J J J J (qD J J J J J (b_geq _ _ _ _) ?_)
 refine qK J J J J ?_
 refine cV 5 J (fun hg=>?_) (fun hg=>by exfalso;omega)
 refine qK J J J J (qD J J J J J (sK _ _ _ _) ?_)
 refine kL J J J J J (qR J J J J (qS (qW [2] (e':=[(2,_)]) J ?_)))
 refine qQ (qJ (cR J J (()) (by rw [decide_eq_true (show (i:Int) < 65535 by omega)]) (by trivial) ?_))
 exact Tf
theorem at_spec (xs:List Int) (ao:Option Addr) (n c:Nat) (A:HProp) (hr:RdS A ao (xs.flatMap encU)) (hn:xs.length=n) (hb:n≤4000000000) (i:Nat):Spec Tryz.prog 107 [.slice ao n c,.int .i64 ((i:Nat):Int)] [A] (fun (_:Unit)=>.int .u64 (xs.getD i 0)) (fun _=>True) (fun _=>[A]):=by
 refine kS (n:=17) Tryz.func107 J J J ?_
 intro Γ w0
 simp only [argE,Ca,Na,Zd,Nat.reduceAdd]
 refine qL (qC (.q 0 (.done)) Kr ?_)
 refine qR J J J J (qS (qQ (qL (qL (qC (.q 0 (.q 1 (.q 2 (.q 3 (.q 4 (.q 5 (.q 6 (.q 7 (.done))))))))) Kr ?_)))))
 refine qK J J J J (qD J J J J J (sK _ _ _ _) ?_)
 refine qK J J J J ?_
 refine cV 7 J (fun hg=>by exfalso;omega) (fun hg=>?_)
 refine qK J J J J (qK J J J J (sR J J J J υ'159 ?_))
 refine qD J J J J J (b_geq _ _ _ _) ?_
 refine kD J J J J J (qS (qW [0,1,12] (e':=[(0,_),(1,_),(12,_)]) J ?_))
 refine qQ ?_
 refine qF J (fun hge=>?_) (fun hge=>?_)
 ·
  refine qL (qC (.q 0 (.done)) Kr ?_)
  refine qR J J J J (qS (qQ (qJ (qN (cR J J (()) (by rw [getD_no Om]) (by trivial) ?_)))))
  exact Tf
 obtain ⟨x,hx⟩:=cX (l:=xs) (i:=i) Om
 refine qH (qQ (qL (qC (.q 0 (.q 1 (.q 2 (.q 3 (.q 4 (.done)))))) Kr ?_)))
 refine qK J J J J (qK J J J J (q_idxR (sz:=0) (k:=i) J J J J J υ'159 ζ'97 (hr) hx encU_len (by first | rfl | omega) Om ?_))
 intro ib15 io15 _ hd15
 refine q_load J J J J α'97 Tk (hd15 0 (.int .u64 x) J) ?_
 refine qR J J J J (qS (qW [4] (e':=[(4,_)]) J ?_))
 refine qQ (qJ (cR J J (()) (by rw [getD_of hx]) (by trivial) ?_))
 exact Tf
theorem get_open (b:Nat) (ao:Option Addr) (cap:Nat) (l:List Int) (ho:OkV l) (i:Nat):Spec Tryz.prog 76 [.pointer (some ⟨b,0,none⟩),.int .i64 ((i:Nat):Int)] [cells b 0 [.slice ao l.length cap],own 1 encU ao cap l] (fun (_:Unit)=>.int .u64 (l.getD i 0)) (fun _=>True) (fun _=>[cells b 0 [.slice ao l.length cap],own 1 encU ao cap l]):=by
 refine kS (n:=13) Tryz.func76 J J J ?_
 intro Γ w0
 simp only [argE,Ca,Na,Zd,Nat.reduceAdd]
 have hll:=ho.1
 refine qL (qC (.q 0 (.done)) Kr ?_)
 refine qR J J J J (qS (qQ (qL (qL (qC (.q 0 (.q 1 (.done))) Kr ?_)))))
 refine qK J J J J (cM J J J J υ'105 ?_)
 refine kF 6 J (v':=.bool false) J ?_
 refine qS (qQ (kN J ?_))
 refine qH (qQ (qL (qC (.q 0 (.q 1 (.q 2 (.q 3 (.q 4 ((.l 5 [] (.q 6 (.done))))))))) Kr ?_)))
 refine qK J J J J (qZ J J J J (qG (k:=0) J J J J υ'168 J ζ'159 J ?_))
 refine qP (j:=0) J J J J α'159 Tk Az (by rfl) ?_
 refine qK J J J J (cP (A:=own 1 encU ao cap l) Tk ?_)
 refine own_fc fun f_1a f_1b f_1c=>?_
 have sp_2:=Rv.at_spec l ao l.length cap (own 1 encU ao cap l) (rC encU_len (fun h=>(f_1b h).1) f_1c) Ln Om i
 refine qB J J J J J J Tryz.call107 (sp_2) Ts ?_
 rintro ⟨⟩ -
 try simp only [Ca,Na]
 refine qV (qR J J J J (qS (qW [4] (e':=[(4,_)]) J ?_)))
 refine qQ (qJ (cR J J (()) (by first | rfl | (first | rfl | (congr 1;done) | (congr 1 <;> first | rfl | omega | (simp;done) | (simp;omega)))) (by trivial) ?_))
 exact Tf
theorem put_open (b:Nat) (ao:Option Addr) (cap:Nat) (l:List Int) (ho:OkV l) (i:Nat) (z:Int) (hi:i < 65535):Spec Tryz.prog 77 [.pointer (some ⟨b,0,none⟩),.int .i64 ((i:Nat):Int),.int .u64 z] [cells b 0 [.slice ao l.length cap],own 1 encU ao cap l] (fun (r:Option Addr × Nat)=>.tuple #[]) (fun r=>True) (fun r=>[cells b 0 [.slice r.1 (withL l i z).length r.2],own 1 encU r.1 r.2 (withL l i z)]):=by
 refine kS (n:=29) Tryz.func77 J J J ?_
 intro Γ w0
 simp only [argE,Ca,Na,Zd,Nat.reduceAdd]
 have hll:=ho.1
 refine qL (kV ?_)
 refine sS (α:=Nat × Option Addr × Nat) (fun (x_:Nat × Option Addr × Nat)=>match x_ with | (m,aa,cc)=>m≤i+1 - l.length∧True) (fun (x_:Nat × Option Addr × Nat)=>match x_ with | (m,aa,cc)=>[]) (fun (x_:Nat × Option Addr × Nat)=>match x_ with | (m,aa,cc)=>[cells b 0 [.slice aa (l.length+m) cc],own 1 encU aa cc (l++List.replicate m (0:Int))]) (fun (x_:Nat × Option Addr × Nat)=>match x_ with | (m,aa,cc)=>i+1 - l.length - m) [0,1,2] (er:=[(0,_),(1,_),(2,_)]) J (0,ao,cap) ?_ (by exact trivial) (by (try dsimp only);rw [List.replicate_zero,List.append_nil,Ad];(repeat ((with_reducible apply Z2);focus (first | (with_reducible (repeat (first | exact Z0 | apply Z1));done) | (repeat (first | exact Z0 | apply Z1)))));exact Z3) ?_
 · exact ⟨Nat.zero_le _,trivial⟩
 rintro ⟨m,aa,cc⟩ ⟨hle_m,hm_⟩
 try simp only [Ca,Na]
 refine qL (qL (qC (.q 0 (.q 1 (.q 2 (.q 3 (.q 4 (.q 5 (.q 6 (.done)))))))) Kr ?_))
 refine qK J J J J (qZ J J J J (qG (k:=0) J J J J υ'168 J ζ'159 J ?_))
 refine qP (j:=0) J J J J α'159 Tk Az (by rfl) ?_
 refine sR J J J J υ'159 ?_
 refine qK J J J J (qD J J J J J (b_leq _ _ _ _) ?_)
 refine qS (qW [0,1,2,12] (e':=[(0,_),(1,_),(2,_),(12,_)]) J ?_)
 refine qQ ?_
 refine qF J (fun hlt=>?_) (fun hlt=>?_)
 ·
  refine qH (qQ (kV (qC (.q 0 (.q 1 (.q 2 (.q 3 (.q 4 ((.l 5 [] ((.l 6 [] (.q 7 (.q 8 ((.l 9 [] (.done)))))))))))))) Kr ?_)))
  refine qK J J J J (qK J J J J (qZ J J J J (qG (k:=0) J J J J υ'168 J ζ'159 J ?_)))
  refine qP (j:=0) J J J J α'159 Tk Az (by rfl) ?_
  refine kJ J J J J (cW (us:=[_]) υ'159 ζ'97 J Tryz.zeroValue97 J J J) ?_
  intro b18
  refine qV (cN (sz:=1) (enc:=encU) (xs:=(l++List.replicate m (0:Int))) J J J J J υ'159 τ'97 J J J (by decide) Tk Tk (by first | rfl | omega | (simp;done) | (simp;omega)) (ys:=[(0:Int)]) (cJ cB) (by rfl) (by first | rfl | omega) (encU_len) (encU_one) Om (by show _*8≤_;omega) ?_)
  intro ao19 cp19
  refine kF 19 J (v':=.slice ao19 (l.length+(m+1)) cp19) (by first | rfl | (congr 1;done) | (congr 1 <;> first | rfl | omega | (simp;done) | (simp;omega))) ?_
  refine qV (qZ J J J J (qG (k:=0) J J J J υ'168 J ζ'159 J ?_))
  refine kR (j:=0) J J J J ζ'159 (us:=[_]) J J J Tk Az (by first | decide | (simp;done) | omega) ?_
  simp only [setL,List.set]
  refine qV (qS (qW [0,1,2] (e':=[(0,_),(1,_),(2,_)]) J ?_))
  refine kG (qQ ?_)
  rw [show (l++List.replicate m (0:Int))++[0]=l++List.replicate (m+1) 0 from by rw [List.append_assoc,← List.replicate_succ']]
  refine kZ (x:=(m,aa,cc)) ((m+1,ao19,cp19)) ?_ ?_ ?_ ?_
  · try dsimp only
    exact ⟨by omega,trivial⟩
  · show i+1 - l.length - (m+1) < i+1 - l.length - m;omega
  · exact ⟨rfl,rfl,rfl,trivial⟩
  · (try simp only [Ca,Na]);exact Tf
 refine cS (qY (qY (kK (qQ ?_))))
 obtain ⟨e,he⟩:=cX (l:=(l++List.replicate m (0:Int))) (i:=i) (by simp;omega)
 refine qC (.q 0 (.q 1 (.q 2 (.q 3 (.q 4 (.q 5 (.q 6 ((.l 7 [] (.done)))))))))) Kr ?_
 refine qK J J J J (qZ J J J J (qG (k:=0) J J J J υ'168 J ζ'159 J ?_))
 refine qP (j:=0) J J J J α'159 Tk Az (by rfl) ?_
 refine qK J J J J (qK J J J J (cK (sz:=0) (k:=i) (enc:=encU) (xs:=(l++List.replicate m (0:Int))) J J J J J υ'159 ζ'97 he (by first | rfl | omega) (by first | omega | (simp;omega)) Tk ?_))
 intro ib28 io28 ha28 hl28 hc28
 refine sC (j:=0) (k:=i) (q:=z) (enc:=encU) (off:=io28) J J J J ζ'97 (us:=[_]) J J J ha28 encU_len he Tk (by first | rfl | exact (Ad _).symm | omega) (by first | decide | exact Nat.le_of_ble_eq_true J) (by rfl) ?_
 refine qV (qS (qW [] (e':=[]) J ?_))
 refine sZ ?_
 have hmm:m=i+1 - l.length:=by omega
 have hw:(l++List.replicate m (0:Int)).set i z=withL l i z:=by rw [hmm];rfl
 rw [hw]
 have hwl:(withL l i z).length=l.length+m:=by unfold withL;simp;omega
 refine ret0 J ((aa,cc)) (by first | rfl | (first | rfl | (congr 1;done) | (congr 1 <;> first | rfl | omega | (simp;done) | (simp;omega)))) (by trivial) ?_
 rw [hwl]
 exact Tf
theorem get_spec (b:Nat) (t:List Int) (i:Nat):Spec Tryz.prog 76 [.pointer (some ⟨b,0,none⟩),.int .i64 ((i:Nat):Int)] [ckB b t] (fun (_:Unit)=>.int .u64 (t.getD i 0)) (fun _=>True) (fun _=>[ckB b t]):=fun Γ w s=>by
  obtain ⟨h1,l1,⟨ao,cap,l,ho,ht,a1⟩,s1⟩:=s
  have s2:=Bun.unfold (Γ:=[cells b 0 [.slice ao l.length cap],own 1 encU ao cap l]) ⟨h1,l1,a1,s1⟩
  subst ht
  rw [tr_g]
  exact (get_open b ao cap l ho i Γ w s2).mono fun e w' ⟨x,e1,hx,s',a⟩=>⟨x,e1,hx,(by
    obtain ⟨h3,l3,a3,s3⟩:=Bun.fold (Γ:=[cells b 0 [.slice ao l.length cap],own 1 encU ao cap l]) s'
    exact ⟨h3,l3,⟨ao,cap,l,ho,rfl,a3⟩,s3⟩),a⟩
theorem set_spec (b:Nat) (t:List Int) (i:Nat) (z:Int) (hi:i < 65535) (h0:0≤z) (h1:z≤maxC):Spec Tryz.prog 83 [.pointer (some ⟨b,0,none⟩),.int .i64 ((i:Nat):Int),.int .u64 z] [ckB b t] (fun (_:Unit)=>.int .i64 0) (fun _=>True) (fun _=>[ckB b (stL t i z)]):=by
 refine kS (n:=18) Tryz.func83 J J J ?_
 intro Γ w0
 simp only [argE,Ca,Na,Zd,Nat.reduceAdd]
 have h1_:=h1
 simp only [maxC] at h1_
 refine qL (qC (.q 0 (.done)) Kr ?_)
 refine qR J J J J (qS (qQ (qL (qL (qC (.q 0 (.q 1 (.done))) Kr ?_)))))
 refine qK J J J J (cM J J J J υ'105 ?_)
 refine kF 8 J (v':=.bool false) J ?_
 refine qS (qQ (kN J ?_))
 refine qH (qQ (qL (qL (ck_open (b:=b) (t:=t) Tk fun ao cap l ho ht=>?_))))
 have hll:=ho.1
 refine qC (.q 0 ((.l 1 [] (.q 2 (.done))))) Kr ?_
 refine qK J J J J ?_
 have sp_1:=Rv.may_spec i Om
 refine qB J J J J J J Tryz.call75 (sp_1) Ts ?_
 rintro ⟨⟩ -
 try simp only [Ca,Na]
 refine qV (rK J J J J ?_)
 refine kF 11 J (v':=.bool false) J ?_
 refine qS (qW [0,1,2,11] (e':=[(0,_),(1,_),(2,_),(11,_)]) J ?_)
 refine qQ (kN J ?_)
 refine qH (qQ (qL (qL (qC (.q 0 (.q 1 (.done))) Kr ?_))))
 refine qK J J J J (qD J J J J J (b_gtr _ _ _ _) ?_)
 refine qS (qQ ?_)
 refine qF J (fun hg=>by exfalso;omega) (fun hg=>?_)
 refine qH (qQ (qL (qC (.q 0 (.q 1 (.q 2 ((.l 3 [] (.done)))))) Kr ?_)))
 refine qK J J J J (qK J J J J (qK J J J J ?_))
 have sp_2:=Rv.put_open b ao cap l ho i z Om
 refine qB J J J J J J Tryz.call77 (sp_2) Ts ?_
 rintro ⟨pa,pc⟩ -
 try simp only [Ca,Na]
 refine qV (qS (qW [] (e':=[]) J ?_))
 refine qQ (qL (qC (.q 0 (.done)) Kr ?_))
 refine qR J J J J (qS (qQ (qJ (ck_fold (b:=b) (ao:=pa) (cap:=pc) (l:=(withL l i z)) (stL t i z) Ts (by first | rfl | simp) (ok_with ho hi h0 h1) (by rw [tr_with ho hi h0 h1,ht]) ?_))))
 refine cR J J (()) (by first | rfl | (first | rfl | (congr 1;done) | (congr 1 <;> first | rfl | omega | (simp;done) | (simp;omega)))) (by trivial) ?_
 exact Tf
theorem inc_spec (b:Nat) (t:List Int) (i:Nat) (hi:i < 65535) (hlt:t.getD i 0 < maxC):Spec Tryz.prog 33 [.pointer (some ⟨b,0,none⟩),.int .i64 ((i:Nat):Int)] [ckB b t] (fun (_:Unit)=>.tuple #[.int .u64 (t.getD i 0+1),.int .i64 0]) (fun _=>True) (fun _=>[ckB b (icL t i)]):=by
 refine kS (n:=24) Tryz.func33 J J J ?_
 intro Γ w0
 simp only [argE,Ca,Na,Zd,Nat.reduceAdd]
 have h1_:=hlt
 simp only [maxC] at h1_
 refine qL (qC (.q 0 (.q 1 (.done))) Kr ?_)
 refine qR J J J J (qR J J J J (qS (qQ (qL (qL (qC (.q 0 (.q 1 (.done))) Kr ?_))))))
 refine qK J J J J (cM J J J J υ'105 ?_)
 refine kF 8 J (v':=.bool false) J ?_
 refine qS (qQ (kN J ?_))
 refine qH (qQ (qL (qL (ck_open (b:=b) (t:=t) Tk fun ao cap l ho ht=>?_))))
 have hll:=ho.1
 refine qC (.q 0 ((.l 1 [] (.q 2 (.done))))) Kr ?_
 refine qK J J J J ?_
 have sp_1:=Rv.may_spec i Om
 refine qB J J J J J J Tryz.call75 (sp_1) Ts ?_
 rintro ⟨⟩ -
 try simp only [Ca,Na]
 refine qV (rK J J J J ?_)
 refine kF 11 J (v':=.bool false) J ?_
 refine qS (qW [0,1,11] (e':=[(0,_),(1,_),(11,_)]) J ?_)
 refine qQ (kN J ?_)
 refine qH (qQ (qL (qC (.q 0 (.q 1 ((.l 2 [] (.q 3 (.done)))))) Kr ?_)))
 refine qK J J J J (qK J J J J ?_)
 have sp_2:=Rv.get_open b ao cap l ho i
 refine qB J J J J J J κ'76 (sp_2) Ts ?_
 rintro ⟨⟩ -
 try simp only [Ca,Na]
 refine qV (qR J J J J (qS (qW [0,1,6] (e':=[(0,_),(1,_),(6,_)]) J ?_)))
 refine qQ (qL (qL (qC (.q 0 (.q 1 (.done))) Kr ?_)))
 refine qK J J J J (qD J J J J J (cZ _ _ _ _) ?_)
 refine qS (qQ ?_)
 refine qF J (fun hg=>by exfalso;first | omega | (rw [← tr_g,ht] at hg;omega)) (fun hg=>?_)
 refine qH (qQ (qL ?_))
 have hgg:=ok_g ho i
 have hlg:l.getD i 0=t.getD i 0:=by rw [← ht,tr_g]
 refine qC (.q 0 (.q 1 (.q 2 (.q 3 ((.l 4 [] (.done))))))) Kr ?_
 refine qK J J J J (qK J J J J (qK J J J J (qD J J J J J (cF _ (by exact fits_u64 Om Om)) ?_)))
 have sp_3:=Rv.put_open b ao cap l ho i ((l.getD i 0)+1) Om
 refine qB J J J J J J Tryz.call77 (sp_3) Ts ?_
 rintro ⟨pa,pc⟩ -
 try simp only [Ca,Na]
 refine qV (qS (qW [6] (e':=[(6,_)]) J ?_))
 refine qQ (qL (qC (.q 0 (.q 1 (.q 2 (.q 3 (.done))))) Kr ?_))
 refine qK J J J J (qD J J J J J (cF _ (by exact fits_u64 Om Om)) ?_)
 refine qR J J J J (qR J J J J (qS (qQ (qJ (ck_fold (b:=b) (ao:=pa) (cap:=pc) (l:=(withL l i (l.getD i 0+1))) (icL t i) Ts (by first | rfl | simp) (ok_with ho hi Om Om) (by rw [tr_with ho hi Om Om,ht,hlg];exact ic_st (by rw [← ht];exact ok_cv ho) hi hlt) ?_)))))
 refine ret2 J J J (()) (by rw [hlg]) (by trivial) ?_
 exact Tf
theorem copy_spec (b:Nat) (t:List Int):Spec Tryz.prog 82 [.pointer (some ⟨b,0,none⟩)] [ckB b t] (fun (r:Nat)=>.pointer (some ⟨r,0,none⟩)) (fun r=>True) (fun r=>[ckB b t,ckB r t]):=by
 refine kS (n:=13) Tryz.func82 J J J ?_
 intro Γ w0
 simp only [argE,Ca,Na,Zd,Nat.reduceAdd]
 refine qL (qC (.q 0 (.done)) Kr ?_)
 refine qR J J J J (qS (qQ (qL (qL (qC (.q 0 (.q 1 (.done))) Kr ?_)))))
 refine qK J J J J (cM J J J J υ'105 ?_)
 refine kF 4 J (v':=.bool false) J ?_
 refine qS (qQ (kN J ?_))
 refine qH (qQ (qL (ck_open (b:=b) (t:=t) Tk fun ao cap l ho ht=>?_)))
 have hll:=ho.1
 refine qC ((.l 0 [] (.q 1 (.q 2 (.q 3 (.q 4 ((.l 5 [] (.q 6 ((.l 7 [] (.q 8 (.done))))))))))))) Kr ?_
 refine cG J J J J υ'159 ζ'97 ?_
 intro b5
 refine qV (qK J J J J (qZ J J J J (qG (k:=0) J J J J υ'168 J ζ'159 J ?_)))
 refine qP (j:=0) J J J J α'159 Tk Az (by rfl) ?_
 refine cP (A:=own 1 encU ao cap l) Tk ?_
 refine own_fc fun f_1a f_1b f_1c=>?_
 refine cP (A:=cells b5 0 []) Tk ?_
 refine cL (fun _ h=>own_mk (sz:=1) (enc:=encU) (xs:=[]) (sp:=[]) (cap:=0) (Nat.le_refl _) J h) ?_
 refine cN (sz:=1) (enc:=encU) (xs:=[]) J J J J J υ'159 τ'97 J J J (by decide) Tk Tk (by first | rfl | omega | (simp;done) | (simp;omega)) (ys:=l) (rC encU_len (fun h=>(f_1b h).1) f_1c) (by rfl) (by first | rfl | omega) (encU_len) (encU_one) Om (by show _*8≤_;omega) ?_
 intro ao10 cp10
 try simp only [Na]
 refine kF 10 J (v':=.slice ao10 l.length cp10) (by first | rfl | (congr 1;done) | (congr 1 <;> first | rfl | omega | (simp;done) | (simp;omega))) ?_
 refine qV (kB J J J J (vs:=[_]) (kQ υ'168 Tryz.zeroValue168 (ps:=[(0,1)]) ⟨rfl,ζ'159,trivial⟩ rfl) ?_)
 refine sG J J J J (us:=[_]) J ?_
 intro b12
 refine qV (qR J J J J (qS (qW [2] (e':=[(2,_)]) J ?_)))
 refine qQ (qJ (ck_fold (b:=b) (ao:=ao) (cap:=cap) (l:=l) t Ts (by first | rfl | simp) ho ht ?_))
 refine ck_fold (b:=b12) (ao:=ao10) (cap:=cp10) (l:=l) t Ts (by first | rfl | simp) ho ht ?_
 refine cR J J (b12) (by first | rfl | (first | rfl | (congr 1;done) | (congr 1 <;> first | rfl | omega | (simp;done) | (simp;omega)))) (by trivial) ?_
 exact Tf
end Go.Ab.Rv
set_option linter.unusedVariables false
set_option linter.unusedSimpArgs false
set_option maxRecDepth 100000
namespace Go.Ab.Fe
open Go Go.Proofs Go.Ab
/-- The document's checker at b. -/
def rk (pa:Option Addr) (pc b:Nat) (x:CS):HProp:=fun h=>∃ ta tc oa oc ba bc,Sat [cells b 0 [.int .i64 x.th,.int .i64 x.va,.int .i64 x.vo,.int .i64 x.lk,.slice pa x.pa.length pc,.slice ta x.T.length tc,.slice oa x.O.length oc,.slice ba x.B.length bc,.int .i64 x.n],own 3 enc3 ta tc x.T,own 1 encZ oa oc x.O,own 2 enc2 ba bc x.B] h
section
variable {w0:World} {ds:List Deferred} {n:Nat} {e:Env} {Γ:List HProp} {X:Act→World→Prop}
theorem rk_open {pa:Option Addr} {pc b:Nat} {x:CS} (k:∀ ta tc oa oc ba bc,Le (St w0 ds n e (cells b 0 [.int .i64 x.th,.int .i64 x.va,.int .i64 x.vo,.int .i64 x.lk,.slice pa x.pa.length pc,.slice ta x.T.length tc,.slice oa x.O.length oc,.slice ba x.B.length bc,.int .i64 x.n]::own 3 enc3 ta tc x.T::own 1 encZ oa oc x.O::own 2 enc2 ba bc x.B::Γ)) X):Le (St w0 ds n e (rk pa pc b x::Γ)) X:=fun a w s=>by
  obtain ⟨h1,l1,⟨ta,tc,oa,oc,ba,bc,a1⟩,s1⟩:=s.heap
  exact k ta tc oa oc ba bc a w ⟨s.defers,s.size,s.env,Bun.unfold ⟨h1,l1,a1,s1⟩,s.amb⟩
theorem rk_fold {Γ':List HProp} {b:Nat} (x:CS) {pn tn on bn:Nat} {pa:Option Addr} {pc:Nat} {ta oa ba:Option Addr} {tc oc bc:Nat}
    (tk:Takes Γ [cells b 0 [.int .i64 x.th,.int .i64 x.va,.int .i64 x.vo,.int .i64 x.lk,.slice pa pn pc,.slice ta tn tc,.slice oa on oc,.slice ba bn bc,.int .i64 x.n],own 3 enc3 ta tc x.T,own 1 encZ oa oc x.O,own 2 enc2 ba bc x.B] Γ') (h1:pn=x.pa.length) (h2:tn=x.T.length) (h3:on=x.O.length) (h4:bn=x.B.length)
    (k:Le (St w0 ds n e (rk pa pc b x::Γ')) X):Le (St w0 ds n e Γ) X:=cL (fun h s=>by
  subst h1 h2 h3 h4
  obtain ⟨h1,l1,a1,s1⟩:=Bun.fold (tk h s)
  exact ⟨h1,l1,⟨ta,tc,oa,oc,ba,bc,a1⟩,s1⟩) k
end
theorem can_run' {x:CS} {k t o:Int} (h:(stF x t).1=1):canF x k t o↔0≤o∧okK x k t o:=by
  unfold canF;rw [h];simp
theorem owF_n {x:CS} {o:Int}:owF x o=none↔owV x o=-1:=by
  unfold owF;split
  · rename_i h;simp [h]
  · rename_i h;simp [h]
theorem owF_s {x:CS} {o t:Int} (ht:t≠-1):owF x o=some t↔owV x o=t:=by
  unfold owF;split
  · rename_i h;rw [h];simp;omega
  · simp
theorem can_out {x:CS} {k t o:Int} (h:¬ (0≤t∧t < (x.T.length:Int))):¬ canF x k t o:=fun hc=>by
  have:=stF_nz (can_th hc);omega
theorem full_out {x:CS} {t:Int} (h:¬ (0≤t∧t < (x.T.length:Int))):¬ fullF x t:=fun hc=>by
  have:=stF_nz (x:=x) (t:=t) (by rw [hc.1];decide);omega
theorem take_next {α:Type} {l:List α} {i:Nat} {a:α} (h:l[i]?=some a):l.take (i+1)=l.take i++[a]:=by
  rw [List.take_add_one,h];rfl
theorem below_spec (i m:Int):Spec Tryz.prog 108 [.int .i64 i,.int .i64 m] [] (fun (_:Unit)=>.bool (decide (0≤i∧i < m))) (fun _=>True) (fun _=>[]):=by
 refine kS (n:=12) Tryz.func108 J J J ?_
 intro Γ w0
 simp only [argE,Ca,Na,Zd,Nat.reduceAdd]
 refine qL (qC (.q 0 (.done)) Kr ?_)
 refine qR J J J J (qS (qQ (qL (qC (.q 0 (.q 1 (.q 2 (.q 3 (.q 4 (.q 5 (.q 6 (.q 7 (.done))))))))) Kr ?_))))
 refine qK J J J J (qD J J J J J (b_geq _ _ _ _) ?_)
 refine qK J J J J ?_
 refine cV 7 J (fun g_1=>?_) (fun g_1=>?_)
 ·
  refine qK J J J J (qK J J J J (qD J J J J J (sK _ _ _ _) ?_))
  refine kL J J J J J (qR J J J J (qS (qW [4] (e':=[(4,_)]) J ?_)))
  refine qQ (qJ (cR J J (()) (by congr 1;first | (rw [decide_eq_decide];omega) | (symm;rw [decide_eq_false_iff_not];omega)) (by trivial) ?_))
  exact Tf
 refine qX J J J J (qX J J J J (qX J J J J (kD J J J J J (qR J J J J (qS (qW [4] (e':=[(4,_)]) J ?_))))))
 refine qQ (qJ (cR J J (()) (by congr 1;first | (rw [decide_eq_decide];omega) | (symm;rw [decide_eq_false_iff_not];omega)) (by trivial) ?_))
 exact Tf
theorem count_spec (i:Int):Spec Tryz.prog 106 [.int .i64 i] [] (fun (_:Unit)=>.bool (decide (0≤i∧i≤4096))) (fun _=>True) (fun _=>[]):=by
 refine kS (n:=9) Tryz.func106 J J J ?_
 intro Γ w0
 simp only [argE,Ca,Na,Zd,Nat.reduceAdd]
 refine qL (qC (.q 0 (.done)) Kr ?_)
 refine qR J J J J (qS (qQ (qL (qC (.q 0 (.q 1 (.q 2 (.q 3 (.q 4 (.q 5 (.q 6 (.done)))))))) Kr ?_))))
 refine qK J J J J (qD J J J J J (b_geq _ _ _ _) ?_)
 refine qK J J J J ?_
 refine cV 5 J (fun g_1=>?_) (fun g_1=>?_)
 ·
  refine qK J J J J (qD J J J J J (b_leq _ _ _ _) ?_)
  refine kL J J J J J (qR J J J J (qS (qW [2] (e':=[(2,_)]) J ?_)))
  refine qQ (qJ (cR J J (()) (by congr 1;first | (rw [decide_eq_decide];omega) | (symm;rw [decide_eq_false_iff_not];omega)) (by trivial) ?_))
  exact Tf
 refine qX J J J J (qX J J J J (kD J J J J J (qR J J J J (qS (qW [2] (e':=[(2,_)]) J ?_)))))
 refine qQ (qJ (cR J J (()) (by congr 1;first | (rw [decide_eq_decide];omega) | (symm;rw [decide_eq_false_iff_not];omega)) (by trivial) ?_))
 exact Tf
theorem rshape_spec (th va vo lk:Int) (pl:List Int) (ao:Option Addr) (n c:Nat) (A:HProp) (hr:RdS A ao (pl.flatMap encZ)) (hn:pl.length=n) (hb:n≤4000000):Spec Tryz.prog 74 [.agg #[.int .i64 th,.int .i64 va,.int .i64 vo,.int .i64 lk,.slice ao n c]] [A] (fun (_:Unit)=>.int .i64 (if OkS th va vo lk pl then 0 else 5)) (fun _=>True) (fun _=>[A]):=by
 refine kS (n:=58) Tryz.func74 J J J ?_
 intro Γ w0
 simp only [argE,Ca,Na,Zd,Nat.reduceAdd]
 refine qL (qC ((.l 0 [] (.q 1 (.done)))) Kr ?_)
 refine sG J J J J (us:=[_,_,_,_,_]) J ?_
 intro b1
 refine qV (qR J J J J (qS (qQ (qL (qL (qC (.q 0 (.q 1 (.q 2 (.q 3 (.q 4 (.q 5 (.q 6 (.q 7 (.q 8 (.q 9 (.q 10 ((.l 11 [] (.q 12 (.q 13 (.q 14 (.q 15 (.q 16 ((.l 17 [] (.q 18 (.q 19 (.q 20 (.q 21 (.q 22 ((.l 23 [] (.q 24 (.q 25 (.q 26 (.q 27 (.q 28 (.q 29 ((.l 30 [] (.q 31 (.q 32 (.done)))))))))))))))))))))))))))))))))))))) Kr ?_))))))
 refine qG (k:=0) J J J J υ'24 J ζ'3 J ?_
 refine qP (j:=0) J J J J α'3 Tk Az (by rfl) ?_
 refine qD J J J J J (sK _ _ _ _) ?_
 refine qK J J J J ?_
 refine cV 7 J (fun h1=>?_) (fun h1=>?_)
 ·
  refine qX J J J J (qX J J J J (qX J J J J (kL J J J J J (qK J J J J (qX J J J J (qX J J J J (rW J J J J ?_)))))))
  refine qX J J J J (kL J J J J J (qK J J J J (qX J J J J (qX J J J J (rW J J J J ?_)))))
  refine qX J J J J (kL J J J J J (qK J J J J (qX J J J J (qX J J J J (rW J J J J ?_)))))
  refine qX J J J J (kL J J J J J (qK J J J J (qX J J J J (qX J J J J (qX J J J J (rW J J J J ?_))))))
  refine qX J J J J (kL J J J J J (qS (qW [1,36] (e':=[(1,_),(36,_)]) J ?_)))
  refine qQ (cC J ?_)
  refine qL (qC (.q 0 (.done)) Kr ?_)
  refine qR J J J J (qS (qQ (qJ (qN (cR J J (()) (by rw [if_neg (fun h=>by have h1:=h.th;have h2:=h.va;have h3:=h.vo;have h4:=h.lk;have h5:=h.pl;omega)]) (by trivial) ?_)))))
  exact Tf
 refine qG (k:=0) J J J J υ'24 J ζ'3 J ?_
 refine qP (j:=0) J J J J α'3 Tk Az (by rfl) ?_
 refine qD J J J J J (b_gtr _ _ _ _) ?_
 refine kD J J J J J (qK J J J J ?_)
 refine cV 12 J (fun h2=>?_) (fun h2=>?_)
 ·
  refine qX J J J J (qX J J J J (rW J J J J ?_))
  refine qX J J J J (kL J J J J J (qK J J J J (qX J J J J (qX J J J J (rW J J J J ?_)))))
  refine qX J J J J (kL J J J J J (qK J J J J (qX J J J J (qX J J J J (rW J J J J ?_)))))
  refine qX J J J J (kL J J J J J (qK J J J J (qX J J J J (qX J J J J (qX J J J J (rW J J J J ?_))))))
  refine qX J J J J (kL J J J J J (qS (qW [1,36] (e':=[(1,_),(36,_)]) J ?_)))
  refine qQ (cC J ?_)
  refine qL (qC (.q 0 (.done)) Kr ?_)
  refine qR J J J J (qS (qQ (qJ (qN (cR J J (()) (by rw [if_neg (fun h=>by have h1:=h.th;have h2:=h.va;have h3:=h.vo;have h4:=h.lk;have h5:=h.pl;omega)]) (by trivial) ?_)))))
  exact Tf
 refine qG (k:=1) J J J J υ'24 J ζ'3 J ?_
 refine qP (j:=1) J J J J α'3 Tk Az (by rfl) ?_
 have sp_1:=count_spec va
 refine qB J J J J J J κ'106 (sp_1) Ts ?_
 rintro ⟨⟩ -
 try simp only [Ca,Na]
 refine qV (rK J J J J ?_)
 refine kD J J J J J (qK J J J J ?_)
 refine s_bool_np 18 J (fun h3=>?_) (fun h3=>?_)
 ·
  refine qX J J J J (qX J J J J (rW J J J J ?_))
  refine qX J J J J (kL J J J J J (qK J J J J (qX J J J J (qX J J J J (rW J J J J ?_)))))
  refine qX J J J J (kL J J J J J (qK J J J J (qX J J J J (qX J J J J (qX J J J J (rW J J J J ?_))))))
  refine qX J J J J (kL J J J J J (qS (qW [1,36] (e':=[(1,_),(36,_)]) J ?_)))
  refine qQ (cC J ?_)
  refine qL (qC (.q 0 (.done)) Kr ?_)
  refine qR J J J J (qS (qQ (qJ (qN (cR J J (()) (by rw [if_neg (fun h=>by have h1:=h.th;have h2:=h.va;have h3:=h.vo;have h4:=h.lk;have h5:=h.pl;omega)]) (by trivial) ?_)))))
  exact Tf
 refine qG (k:=2) J J J J υ'24 J ζ'3 J ?_
 refine qP (j:=2) J J J J α'3 Tk Az (by rfl) ?_
 have sp_2:=count_spec vo
 refine qB J J J J J J κ'106 (sp_2) Ts ?_
 rintro ⟨⟩ -
 try simp only [Ca,Na]
 refine qV (rK J J J J ?_)
 refine kD J J J J J (qK J J J J ?_)
 refine s_bool_np 24 J (fun h4=>?_) (fun h4=>?_)
 ·
  refine qX J J J J (qX J J J J (rW J J J J ?_))
  refine qX J J J J (kL J J J J J (qK J J J J (qX J J J J (qX J J J J (qX J J J J (rW J J J J ?_))))))
  refine qX J J J J (kL J J J J J (qS (qW [1,36] (e':=[(1,_),(36,_)]) J ?_)))
  refine qQ (cC J ?_)
  refine qL (qC (.q 0 (.done)) Kr ?_)
  refine qR J J J J (qS (qQ (qJ (qN (cR J J (()) (by rw [if_neg (fun h=>by have h1:=h.th;have h2:=h.va;have h3:=h.vo;have h4:=h.lk;have h5:=h.pl;omega)]) (by trivial) ?_)))))
  exact Tf
 refine qG (k:=3) J J J J υ'24 J ζ'3 J ?_
 refine qP (j:=3) J J J J α'3 Tk Az (by rfl) ?_
 have sp_3:=count_spec lk
 refine qB J J J J J J κ'106 (sp_3) Ts ?_
 rintro ⟨⟩ -
 try simp only [Ca,Na]
 refine qV (rK J J J J ?_)
 refine kD J J J J J (qK J J J J ?_)
 refine s_bool_np 30 J (fun h5=>?_) (fun h5=>?_)
 ·
  refine qX J J J J (qX J J J J (qX J J J J (rW J J J J ?_)))
  refine qX J J J J (kL J J J J J (qS (qW [1,36] (e':=[(1,_),(36,_)]) J ?_)))
  refine qQ (cC J ?_)
  refine qL (qC (.q 0 (.done)) Kr ?_)
  refine qR J J J J (qS (qQ (qJ (qN (cR J J (()) (by rw [if_neg (fun h=>by have h1:=h.th;have h2:=h.va;have h3:=h.vo;have h4:=h.lk;have h5:=h.pl;omega)]) (by trivial) ?_)))))
  exact Tf
 refine qG (k:=4) J J J J υ'24 J ζ'22 J ?_
 refine qP (j:=4) J J J J α'22 Tk Az (by rfl) ?_
 refine sR J J J J υ'22 ?_
 have sp_4:=count_spec ((n:Nat):Int)
 refine qB J J J J J J κ'106 (sp_4) Ts ?_
 rintro ⟨⟩ -
 try simp only [Ca,Na]
 refine qV (rK J J J J ?_)
 refine kD J J J J J (qS (qW [1,36] (e':=[(1,_),(36,_)]) J ?_))
 refine qQ ?_
 refine c_cond_np J (fun h6=>?_) (fun h6=>?_)
 ·
  refine qL (qC (.q 0 (.done)) Kr ?_)
  refine qR J J J J (qS (qQ (qJ (qN (cR J J (()) (by rw [if_neg (fun h=>by have h1:=h.th;have h2:=h.va;have h3:=h.vo;have h4:=h.lk;have h5:=h.pl;omega)]) (by trivial) ?_)))))
  exact Tf
 refine qH (qQ (qL (qL (qC (.q 0 (.done)) Kr ?_))))
 refine qR J J J J (qS (qQ (kV ?_)))
 refine sS (α:=Nat) (fun (i:Nat)=>i≤n∧(∀ (j:Nat) (p:Int),j < i→pl[j]?=some p→badP p=false)) (fun (i:Nat)=>[(3,.int .i64 ((i:Nat):Int))]) (fun (i:Nat)=>[]) (fun (i:Nat)=>n - i) [1] (er:=[(1,_)]) J (0) ?_ (by exact ⟨rfl,trivial⟩) (by (try dsimp only);(try simp only [Ad,Zd]);(repeat ((with_reducible apply Z2);focus (first | (with_reducible (repeat (first | exact Z0 | apply Z1));done) | (repeat (first | exact Z0 | apply Z1)))));exact Z3) ?_
 · exact ⟨Nat.zero_le _,fun j p h=>by omega⟩
 rintro i ⟨hle_i,hI⟩
 try simp only [Ca,Na]
 refine qL (qL (qC (.q 0 (.q 1 (.q 2 (.q 3 (.q 4 (.done)))))) Kr ?_))
 refine qK J J J J (qG (k:=4) J J J J υ'24 J ζ'22 J ?_)
 refine qP (j:=4) J J J J α'22 Tk Az (by rfl) ?_
 refine sR J J J J υ'22 ?_
 refine qD J J J J J (sK _ _ _ _) ?_
 refine qS (qW [1,3,41] (e':=[(1,_),(3,_),(41,_)]) J ?_)
 refine qQ ?_
 refine qF J (fun hlt=>?_) (fun hlt=>?_)
 ·
  refine qH (qQ (qL (kV (qL ?_))))
  obtain ⟨p,hp⟩:=cX (l:=pl) (i:=i) Om
  refine qC (.q 0 (.q 1 (.q 2 (.q 3 (.q 4 (.q 5 (.q 6 (.q 7 (.q 8 (.q 9 (.q 10 (.q 11 (.q 12 (.q 13 (.done))))))))))))))) Kr ?_
  refine qG (k:=4) J J J J υ'24 J ζ'22 J ?_
  refine qP (j:=4) J J J J α'22 Tk Az (by rfl) ?_
  refine qK J J J J (q_idxR (sz:=0) (k:=i) J J J J J υ'22 ζ'3 (hr) hp encZ_len (by first | rfl | omega) Om ?_)
  intro ib47 io47 _ hd47
  refine q_load J J J J α'3 Tk (hd47 0 (.int .i64 p) J) ?_
  refine qD J J J J J (sK _ _ _ _) ?_
  refine qK J J J J ?_
  refine cV 50 J (fun hp1=>?_) (fun hp1=>?_)
  ·
   refine qX J J J J (qX J J J J (qX J J J J (qX J J J J (qX J J J J (qX J J J J (kL J J J J J (qS (qW [1,3,51,52,53,54,55,56,57] (e':=[(1,_),(3,_),(51,_),(52,_),(53,_),(54,_),(55,_),(56,_),(57,_)]) J ?_))))))))
   refine qQ (cC J ?_)
   have hno:¬ OkS th va vo lk pl:=fun h=>by
     have:=h.pa p (List.mem_of_getElem? hp);omega
   refine qL (qC (.q 0 (.done)) Kr ?_)
   refine qR J J J J (qS (qW [2] (e':=[(2,_)]) J ?_))
   refine qQ (qJ (kH (qN (qN (kH (qN (cR J J (()) (by rw [if_neg hno]) (by trivial) ?_)))))))
   exact Tf
  refine qG (k:=4) J J J J υ'24 J ζ'22 J ?_
  refine qP (j:=4) J J J J α'22 Tk Az (by rfl) ?_
  refine qK J J J J (q_idxR (sz:=0) (k:=i) J J J J J υ'22 ζ'3 (hr) hp encZ_len (by first | rfl | omega) Om ?_)
  intro ib54 io54 _ hd54
  refine q_load J J J J α'3 Tk (hd54 0 (.int .i64 p) J) ?_
  refine qD J J J J J (b_gtr _ _ _ _) ?_
  refine kD J J J J J (qS (qW [1,3,51,52,53,54,55,56,57] (e':=[(1,_),(3,_),(51,_),(52,_),(53,_),(54,_),(55,_),(56,_),(57,_)]) J ?_))
  refine qQ ?_
  refine qF J (fun hp2=>?_) (fun hp2=>?_)
  ·
   have hno:¬ OkS th va vo lk pl:=fun h=>by
     have:=h.pa p (List.mem_of_getElem? hp);omega
   refine qL (qC (.q 0 (.done)) Kr ?_)
   refine qR J J J J (qS (qW [2] (e':=[(2,_)]) J ?_))
   refine qQ (qJ (kH (qN (qN (kH (qN (cR J J (()) (by rw [if_neg hno]) (by trivial) ?_)))))))
   exact Tf
  have hgood:badP p=false:=by simp only [badP,Bool.or_eq_false_iff,decide_eq_false_iff_not];omega
  refine qH (kG (qQ (qC (.q 0 (.q 1 (.q 2 (.done)))) Kr ?_)))
  refine qK J J J J (qD J J J J J (cF _ (by exact kY Om Om)) ?_)
  refine qR J J J J (qS (qQ ?_))
  refine kZ (x:=i) (i+1) ?_ ?_ ?_ ?_
  · exact ⟨by omega,fun j q hj hq=>(by
        by_cases h:j=i
        · subst h;rw [hp] at hq;cases hq;exact hgood
        · exact hI j q Om hq)⟩
  · show n - (i+1) < n - i;omega
  · exact ⟨rfl,rfl,trivial⟩
  · (try simp only [Ca,Na]);exact Tf
 refine cS (qY (qY (kK (qQ (qL (qC (.q 0 (.done)) Kr ?_))))))
 refine qR J J J J (qS (qQ (qJ ?_)))
 refine cR J J (()) (by rw [if_pos (okS_iff.2 ⟨by omega,by omega,by omega,by omega,by omega,fun p q=>by
   obtain ⟨j,hj⟩:=List.getElem?_of_mem q
   exact hI j p (by have:=(List.getElem?_eq_some_iff.1 hj).1;omega) hj⟩)]) (by trivial) ?_
 exact Tf
theorem rfull_spec (pa:Option Addr) (pc b:Nat) (x:CS) (hx:CInv x) (t:Int):Spec Tryz.prog 109 [.pointer (some ⟨b,0,none⟩),.int .i64 t] [rk pa pc b x] (fun (_:Unit)=>.bool (decide (fullF x t))) (fun _=>True) (fun _=>[rk pa pc b x]):=by
 refine kS (n:=42) Tryz.func109 J J J ?_
 intro Γ w0
 simp only [argE,Ca,Na,Zd,Nat.reduceAdd]
 refine qL (qC (.q 0 (.done)) Kr ?_)
 refine qR J J J J (qS (qQ (qL (qL (cP (A:=rk pa pc b x) Tk ?_)))))
 refine rk_open fun ta tc oa oc ba bc=>?_
 refine qC (.q 0 (.q 1 (.q 2 (.q 3 (.q 4 (.q 5 (.q 6 (.q 7 (.q 8 ((.l 9 [] (.q 10 (.q 11 (.done)))))))))))))) Kr ?_
 refine qK J J J J (cM J J J J υ'98 ?_)
 refine kF 7 J (v':=.bool false) J ?_
 refine qK J J J J (qK J J J J (qK J J J J (qZ J J J J (qG (k:=5) J J J J υ'166 J ζ'164 J ?_))))
 refine qP (j:=5) J J J J α'164 Tk Az (by rfl) ?_
 refine sR J J J J υ'164 ?_
 have sp_1:=below_spec t ((x.T.length:Nat):Int)
 refine qB J J J J J J κ'108 (sp_1) Ts ?_
 rintro ⟨⟩ -
 try simp only [Ca,Na]
 refine qV (rK J J J J ?_)
 refine kD J J J J J (qS (qW [0,1,17] (e':=[(0,_),(1,_),(17,_)]) J ?_))
 refine qQ ?_
 refine c_cond_np J (fun hin=>?_) (fun hin=>?_)
 ·
  refine qL (qC (.q 0 (.done)) Kr ?_)
  refine qR J J J J (qS (qQ (qJ (qN (rk_fold (b:=b) x (pa:=pa) (pc:=pc) (ta:=ta) (tc:=tc) (oa:=oa) (oc:=oc) (ba:=ba) (bc:=bc) Ts (by rfl) (by rfl) (by rfl) (by rfl) ?_)))))
  refine cR J J (()) (by congr 1;symm;rw [decide_eq_false_iff_not];exact full_out hin) (by trivial) ?_
  exact Tf
 have hst:=stF_at (x:=x) hin.1 hin.2
 refine qH (qQ (qL (qC (.q 0 (.q 1 (.q 2 (.q 3 (.q 4 (.q 5 (.q 6 ((.l 7 [] ((.l 8 [] (.done)))))))))))) Kr ?_)))
 refine qK J J J J (qZ J J J J (qG (k:=5) J J J J υ'166 J ζ'164 J ?_))
 refine qP (j:=5) J J J J α'164 Tk Az (by rfl) ?_
 refine qK J J J J (cK (sz:=2) (k:=t.toNat) (enc:=enc3) (xs:=x.T) J J J J J υ'164 ζ'133 hst (by first | rfl | omega) Om Tk ?_)
 intro ib23 io23 ha23 hl23 hc23
 refine rS (j:=0) (k':=t.toNat) (us:=[_,_,_]) (enc:=enc3) (off:=io23) J J J J α'133 ζ'133 ha23 enc3_len hst Tk (by first | rfl | exact (Ad _).symm | omega) (by rfl) J ?_
 refine cY J J J ω'133 (zs:=[.int .i64 0,.int .i64 0,.int .i64 0]) J ?_
 intro b5
 refine qV (kR (j:=0) J J J J ζ'133 (us:=[_,_,_]) J J J Tk Az (by first | decide | (simp;done) | omega) ?_)
 simp only [setL,List.set]
 refine qV (qS (qW [0,5] (e':=[(0,_),(5,_)]) J ?_))
 refine qQ (qL (kM J (.q 0 (.q 1 (.q 2 (.q 3 (.q 4 (.q 5 (.q 6 (.q 7 (.q 8 (.q 9 (.q 10 (.q 11 (.q 12 (.q 13 (.q 14 (.q 15 (.q 16 (.q 17 (.done))))))))))))))))))) Kr ?_))
 refine qG (k:=0) J J J J υ'133 J ζ'131 J ?_
 refine qP (j:=0) J J J J α'131 Tk Az (by rfl) ?_
 refine qD J J J J J (cZ _ _ _ _) ?_
 refine qK J J J J ?_
 refine cV 28 J (fun h2=>?_) (fun h2=>?_)
 ·
  have hsi:=(stF_inv hx t).2.2.1 h2
  have hop:=opF_at hsi.1 hsi.2.1
  refine qG (k:=2) J J J J υ'133 J ζ'3 J ?_
  refine qP (j:=2) J J J J α'3 Tk Az (by rfl) ?_
  refine qK J J J J (qZ J J J J (qG (k:=7) J J J J υ'166 J ζ'136 J ?_))
  refine qP (j:=7) J J J J α'136 Tk Az (by rfl) ?_
  refine qG (k:=1) J J J J υ'133 J ζ'3 J ?_
  refine qP (j:=1) J J J J α'3 Tk Az (by rfl) ?_
  refine cK (sz:=1) (k:=(stF x t).2.1.toNat) (enc:=enc2) (xs:=x.B) J J J J J υ'136 ζ'149 hop (by first | rfl | omega) Om Tk ?_
  intro ib37 io37 ha37 hl37 hc37
  refine qG (k:=0) J J J J υ'149 J ζ'3 J ?_
  refine cQ (v:=(.int .i64 ((opF x (stF x t).2.1).1))) (j:=0) (k':=(stF x t).2.1.toNat) (enc:=enc2) (off:=io37) J J J J α'3 ha37 enc2_len hop Tk (by first | rfl | exact (Ad _).symm | omega) (by rfl) ?_
  refine qD J J J J J (sK _ _ _ _) ?_
  refine kL J J J J J (qR J J J J (qS (qW [4] (e':=[(4,_)]) J ?_)))
  refine qQ (qJ (rk_fold (b:=b) x (pa:=pa) (pc:=pc) (ta:=ta) (tc:=tc) (oa:=oa) (oc:=oc) (ba:=ba) (bc:=bc) Ts (by rfl) (by rfl) (by rfl) (by rfl) ?_))
  refine cR J J (()) (by congr 1;first | (rw [decide_eq_decide];simp [fullF,h2];done) | (symm;rw [decide_eq_false_iff_not];simp [fullF,h2])) (by trivial) ?_
  exact Tf
 refine qX J J J J (qX J J J J (qX J J J J (qX J J J J (qX J J J J (qX J J J J (qX J J J J (qX J J J J (qX J J J J ?_))))))))
 refine qX J J J J (qX J J J J (qX J J J J (kD J J J J J (qR J J J J (qS (qW [4] (e':=[(4,_)]) J ?_))))))
 refine qQ (qJ (rk_fold (b:=b) x (pa:=pa) (pc:=pc) (ta:=ta) (tc:=tc) (oa:=oa) (oc:=oc) (ba:=ba) (bc:=bc) Ts (by rfl) (by rfl) (by rfl) (by rfl) ?_))
 refine cR J J (()) (by congr 1;first | (rw [decide_eq_decide];simp [fullF,h2];done) | (symm;rw [decide_eq_false_iff_not];simp [fullF,h2])) (by trivial) ?_
 exact Tf
theorem rcan_spec (pa:Option Addr) (pc b:Nat) (x:CS) (hx:CInv x) (k t o:Int):Spec Tryz.prog 78 [.pointer (some ⟨b,0,none⟩),.agg #[.int .i64 k,.int .i64 t,.int .i64 o]] [rk pa pc b x] (fun (_:Unit)=>.bool (decide (canF x k t o))) (fun _=>True) (fun _=>[rk pa pc b x]):=by
 refine kS (n:=176) Tryz.func78 J J J ?_
 intro Γ w0
 simp only [argE,Ca,Na,Zd,Nat.reduceAdd]
 have htl:=hx.tl
 have hol:=hx.ol
 have hbl:=hx.bl
 refine qL (qC ((.l 0 [] (.q 1 (.done)))) Kr ?_)
 refine sG J J J J (us:=[_,_,_]) J ?_
 intro b3
 refine qV (qR J J J J (qS (qQ (qL (qL (cP (A:=rk pa pc b x) Tk ?_))))))
 refine rk_open fun ta tc oa oc ba bc=>?_
 refine kM J (.q 0 (.q 1 (.q 2 (.q 3 (.q 4 (.q 5 (.q 6 (.q 7 (.q 8 (.q 9 ((.l 10 [] (.q 11 (.q 12 (.done))))))))))))))) Kr ?_
 refine qK J J J J (cM J J J J υ'98 ?_)
 refine kF 7 J (v':=.bool false) J ?_
 refine qK J J J J (qG (k:=1) J J J J υ'52 J ζ'3 J ?_)
 refine qP (j:=1) J J J J α'3 Tk Az (by rfl) ?_
 refine qK J J J J (qZ J J J J (qG (k:=5) J J J J υ'166 J ζ'164 J ?_))
 refine qP (j:=5) J J J J α'164 Tk Az (by rfl) ?_
 refine sR J J J J υ'164 ?_
 have sp_1:=below_spec t ((x.T.length:Nat):Int)
 refine qB J J J J J J κ'108 (sp_1) Ts ?_
 rintro ⟨⟩ -
 try simp only [Ca,Na]
 refine qV (rK J J J J ?_)
 refine kD J J J J J (qS (qW [0,3,18] (e':=[(0,_),(3,_),(18,_)]) J ?_))
 refine qQ ?_
 refine c_cond_np J (fun hin=>?_) (fun hin=>?_)
 ·
  refine qL (qC (.q 0 (.done)) Kr ?_)
  refine qR J J J J (qS (qQ (qJ (qN (rk_fold (b:=b) x (pa:=pa) (pc:=pc) (ta:=ta) (tc:=tc) (oa:=oa) (oc:=oc) (ba:=ba) (bc:=bc) Ts (by rfl) (by rfl) (by rfl) (by rfl) ?_)))))
  refine cR J J (()) (by congr 1;symm;rw [decide_eq_false_iff_not];exact can_out hin) (by trivial) ?_
  exact Tf
 have hst:=stF_at (x:=x) hin.1 hin.2
 refine qH (qQ (qL (kM J (.q 0 (.q 1 (.q 2 (.q 3 (.q 4 (.q 5 (.q 6 (.q 7 ((.l 8 [3,5,7] ((.l 9 [] (.done))))))))))))) Kr ?_)))
 refine qK J J J J (qZ J J J J (qG (k:=5) J J J J υ'166 J ζ'164 J ?_))
 refine qP (j:=5) J J J J α'164 Tk Az (by rfl) ?_
 refine qG (k:=1) J J J J υ'52 J ζ'3 J ?_
 refine qP (j:=1) J J J J α'3 Tk Az (by rfl) ?_
 refine cK (sz:=2) (k:=t.toNat) (enc:=enc3) (xs:=x.T) J J J J J υ'164 ζ'133 hst (by first | rfl | omega) Om Tk ?_
 intro ib25 io25 ha25 hl25 hc25
 refine rS (j:=0) (k':=t.toNat) (us:=[_,_,_]) (enc:=enc3) (off:=io25) J J J J α'133 ζ'133 ha25 enc3_len hst Tk (by first | rfl | exact (Ad _).symm | omega) (by rfl) J ?_
 refine cY J J J ω'133 (zs:=[.int .i64 0,.int .i64 0,.int .i64 0]) J ?_
 intro b5
 refine qM (q:=5) J J J α'164 Tk Az (by rfl) ?_
 refine qM (q:=1) J J J α'3 Tk Az (by rfl) ?_
 refine ag_loadN_O (j:=0) (k':=t.toNat) (us:=[_,_,_]) (enc:=enc3) (off:=io25) J J J α'133 ζ'133 ha25 enc3_len hst Tk (by first | rfl | exact (Ad _).symm | omega) (by rfl) J ?_
 refine qV (kR (j:=0) J J J J ζ'133 (us:=[_,_,_]) J J J Tk Az (by first | decide | (simp;done) | omega) ?_)
 simp only [setL,List.set]
 refine qV (qS (qW [0,3,5] (e':=[(0,_),(3,_),(5,_)]) J ?_))
 refine qQ (qL (qL (qC (.q 0 (.q 1 (.q 2 (.done)))) Kr ?_)))
 refine qG (k:=0) J J J J υ'133 J ζ'131 J ?_
 refine qP (j:=0) J J J J α'131 Tk Az (by rfl) ?_
 refine qD J J J J J (cZ _ _ _ _) ?_
 refine qS (qQ ?_)
 refine qF J (fun h2=>?_) (fun h2=>?_)
 ·
  refine qL (qC (.q 0 (.q 1 (.q 2 (.q 3 (.q 4 (.q 5 (.q 6 (.q 7 (.q 8 (.q 9 (.q 10 (.q 11 (.q 12 (.q 13 ((.l 14 [] (.q 15 (.q 16 (.done))))))))))))))))))) Kr ?_)
  refine qG (k:=0) J J J J υ'52 J ζ'50 J ?_
  refine qP (j:=0) J J J J α'50 Tk Az (by rfl) ?_
  refine qD J J J J J (cZ _ _ _ _) ?_
  refine qK J J J J ?_
  refine cV 33 J (fun h10=>?_) (fun h10=>?_)
  ·
   refine qG (k:=2) J J J J υ'52 J ζ'3 J ?_
   refine qP (j:=2) J J J J α'3 Tk Az (by rfl) ?_
   refine qG (k:=1) J J J J υ'133 J ζ'3 J ?_
   refine qP (j:=1) J J J J α'3 Tk Az (by rfl) ?_
   refine qD J J J J J (cZ _ _ _ _) ?_
   refine kL J J J J J (qK J J J J ?_)
   refine cV 40 J (fun hob=>?_) (fun hob=>?_)
   ·
    refine qK J J J J (qG (k:=1) J J J J υ'52 J ζ'3 J ?_)
    refine qP (j:=1) J J J J α'3 Tk Az (by rfl) ?_
    refine rk_fold (b:=b) x (pa:=pa) (pc:=pc) (ta:=ta) (tc:=tc) (oa:=oa) (oc:=oc) (ba:=ba) (bc:=bc) Ts (by rfl) (by rfl) (by rfl) (by rfl) ?_
    have sp_2:=rfull_spec pa pc b x hx t
    refine qB J J J J J J Tryz.call109 (sp_2) Ts ?_
    rintro ⟨⟩ -
    try simp only [Ca,Na]
    refine qV (cP (A:=rk pa pc b x) Tk ?_)
    refine rk_open fun ta tc oa oc ba bc=>?_
    refine kL J J J J J (qR J J J J (qS (qW [4] (e':=[(4,_)]) J ?_)))
    refine qQ (qJ (qN (rk_fold (b:=b) x (pa:=pa) (pc:=pc) (ta:=ta) (tc:=tc) (oa:=oa) (oc:=oc) (ba:=ba) (bc:=bc) Ts (by rfl) (by rfl) (by rfl) (by rfl) ?_)))
    refine cR J J (()) (by congr 1;first | (rw [decide_eq_decide,can_wait h2];simp_all;done) | (symm;rw [decide_eq_false_iff_not,can_wait h2];simp_all)) (by trivial) ?_
    exact Tf
   refine qX J J J J (qX J J J J (qX J J J J (rW J J J J ?_)))
   refine kD J J J J J (qR J J J J (qS (qW [4] (e':=[(4,_)]) J ?_)))
   refine qQ (qJ (qN (rk_fold (b:=b) x (pa:=pa) (pc:=pc) (ta:=ta) (tc:=tc) (oa:=oa) (oc:=oc) (ba:=ba) (bc:=bc) Ts (by rfl) (by rfl) (by rfl) (by rfl) ?_)))
   refine cR J J (()) (by congr 1;first | (rw [decide_eq_decide,can_wait h2];simp_all;done) | (symm;rw [decide_eq_false_iff_not,can_wait h2];simp_all)) (by trivial) ?_
   exact Tf
  refine qX J J J J (qX J J J J (qX J J J J (qX J J J J (qX J J J J (kD J J J J J (qK J J J J (qX J J J J (qX J J J J ?_))))))))
  refine qX J J J J (rW J J J J ?_)
  refine kD J J J J J (qR J J J J (qS (qW [4] (e':=[(4,_)]) J ?_)))
  refine qQ (qJ (qN (rk_fold (b:=b) x (pa:=pa) (pc:=pc) (ta:=ta) (tc:=tc) (oa:=oa) (oc:=oc) (ba:=ba) (bc:=bc) Ts (by rfl) (by rfl) (by rfl) (by rfl) ?_)))
  refine cR J J (()) (by congr 1;first | (rw [decide_eq_decide,can_wait h2];simp_all;done) | (symm;rw [decide_eq_false_iff_not,can_wait h2];simp_all)) (by trivial) ?_
  exact Tf
 refine qH (qQ (qL (qL (qC (.q 0 (.q 1 (.q 2 (.done)))) Kr ?_))))
 refine qG (k:=0) J J J J υ'133 J ζ'131 J ?_
 refine qP (j:=0) J J J J α'131 Tk Az (by rfl) ?_
 refine qD J J J J J (b_neq _ _ _ _) ?_
 refine qS (qW [0,3,48] (e':=[(0,_),(3,_),(48,_)]) J ?_)
 refine qQ ?_
 refine qF J (fun h1=>?_) (fun h1=>?_)
 ·
  refine qL (qC (.q 0 (.done)) Kr ?_)
  refine qR J J J J (qS (qQ (qJ (qN (rk_fold (b:=b) x (pa:=pa) (pc:=pc) (ta:=ta) (tc:=tc) (oa:=oa) (oc:=oc) (ba:=ba) (bc:=bc) Ts (by rfl) (by rfl) (by rfl) (by rfl) ?_)))))
  refine cR J J (()) (by congr 1;symm;rw [decide_eq_false_iff_not];exact can_not h2 (.inl h1)) (by trivial) ?_
  exact Tf
 have h1:(stF x t).1=1:=by omega
 refine qH (qQ (qL (qL (qC (.q 0 (.q 1 (.done))) Kr ?_))))
 refine qG (k:=0) J J J J υ'52 J ζ'50 J ?_
 refine qP (j:=0) J J J J α'50 Tk Az (by rfl) ?_
 refine qS (qQ (kV (qL (qL (qC (.q 0 (.q 1 (.done))) Kr ?_)))))
 refine qD J J J J J (cZ _ _ _ _) ?_
 refine qR J J J J (qS (qQ ?_))
 refine qF J (fun k1=>?_) (fun k1=>?_)
 ·
  refine kF 51 J (v':=.bool true) (by rw [decide_eq_true k1]) ?_
  refine qH (qQ (cC J ?_))
  refine qL (kM J (.q 0 (.q 1 (.q 2 (.q 3 (.q 4 (.q 5 (.q 6 ((.l 7 [] (.q 8 (.done))))))))))) Kr ?_)
  refine qG (k:=2) J J J J υ'52 J ζ'3 J ?_
  refine qP (j:=2) J J J J α'3 Tk Az (by rfl) ?_
  refine qK J J J J (qZ J J J J (qG (k:=0) J J J J υ'166 J ζ'24 J ?_))
  refine qG (k:=1) J J J J υ'24 J ζ'3 J ?_
  refine qP (j:=1) J J J J α'3 Tk Az (by rfl) ?_
  have sp_3:=below_spec o x.va
  refine qB J J J J J J κ'108 (sp_3) Ts ?_
  rintro ⟨⟩ -
  try simp only [Ca,Na]
  refine qV (qR J J J J (qS (qW [4] (e':=[(4,_)]) J ?_)))
  refine qQ (qJ (kH (qN (rk_fold (b:=b) x (pa:=pa) (pc:=pc) (ta:=ta) (tc:=tc) (oa:=oa) (oc:=oc) (ba:=ba) (bc:=bc) Ts (by rfl) (by rfl) (by rfl) (by rfl) ?_))))
  refine cR J J (()) (by congr 1;rw [decide_eq_decide,can_run' h1,okK_k.1 (.inl k1)];try rfl) (by trivial) ?_
  exact Tf
 refine kF 51 J (v':=.bool false) (by rw [decide_eq_false k1]) ?_
 refine qC (.q 0 (.q 1 (.done))) Kr ?_
 refine qD J J J J J (cZ _ _ _ _) ?_
 refine qR J J J J (qS (qW [0,3,50,51] (e':=[(0,_),(3,_),(50,_),(51,_)]) J ?_))
 refine qQ ?_
 refine qF J (fun k2=>?_) (fun k2=>?_)
 ·
  refine qL (kM J (.q 0 (.q 1 (.q 2 (.q 3 (.q 4 (.q 5 (.q 6 ((.l 7 [] (.q 8 (.done))))))))))) Kr ?_)
  refine qG (k:=2) J J J J υ'52 J ζ'3 J ?_
  refine qP (j:=2) J J J J α'3 Tk Az (by rfl) ?_
  refine qK J J J J (qZ J J J J (qG (k:=0) J J J J υ'166 J ζ'24 J ?_))
  refine qG (k:=1) J J J J υ'24 J ζ'3 J ?_
  refine qP (j:=1) J J J J α'3 Tk Az (by rfl) ?_
  have sp_4:=below_spec o x.va
  refine qB J J J J J J κ'108 (sp_4) Ts ?_
  rintro ⟨⟩ -
  try simp only [Ca,Na]
  refine qV (qR J J J J (qS (qW [4] (e':=[(4,_)]) J ?_)))
  refine qQ (qJ (kH (qN (rk_fold (b:=b) x (pa:=pa) (pc:=pc) (ta:=ta) (tc:=tc) (oa:=oa) (oc:=oc) (ba:=ba) (bc:=bc) Ts (by rfl) (by rfl) (by rfl) (by rfl) ?_))))
  refine cR J J (()) (by congr 1;rw [decide_eq_decide,can_run' h1,okK_k.1 (.inr k2)];try rfl) (by trivial) ?_
  exact Tf
 refine qL (qL (qC (.q 0 (.q 1 (.done))) Kr ?_))
 refine qD J J J J J (cZ _ _ _ _) ?_
 refine qR J J J J (qS (qQ ?_))
 refine qF J (fun k3=>?_) (fun k3=>?_)
 ·
  refine kF 62 J (v':=.bool true) (by rw [decide_eq_true k3]) ?_
  refine qH (qQ (cC J ?_))
  refine qL (kM J (.q 0 (.q 1 (.q 2 (.q 3 (.q 4 (.q 5 (.q 6 ((.l 7 [] (.q 8 (.done))))))))))) Kr ?_)
  refine qG (k:=2) J J J J υ'52 J ζ'3 J ?_
  refine qP (j:=2) J J J J α'3 Tk Az (by rfl) ?_
  refine qK J J J J (qZ J J J J (qG (k:=0) J J J J υ'166 J ζ'24 J ?_))
  refine qG (k:=2) J J J J υ'24 J ζ'3 J ?_
  refine qP (j:=2) J J J J α'3 Tk Az (by rfl) ?_
  have sp_5:=below_spec o x.vo
  refine qB J J J J J J κ'108 (sp_5) Ts ?_
  rintro ⟨⟩ -
  try simp only [Ca,Na]
  refine qV (qR J J J J (qS (qW [4] (e':=[(4,_)]) J ?_)))
  refine qQ (qJ (kH (qN (rk_fold (b:=b) x (pa:=pa) (pc:=pc) (ta:=ta) (tc:=tc) (oa:=oa) (oc:=oc) (ba:=ba) (bc:=bc) Ts (by rfl) (by rfl) (by rfl) (by rfl) ?_))))
  refine cR J J (()) (by congr 1;rw [decide_eq_decide,can_run' h1,okK_k.2.1 (.inl k3)];try rfl) (by trivial) ?_
  exact Tf
 refine kF 62 J (v':=.bool false) (by rw [decide_eq_false k3]) ?_
 refine qC (.q 0 (.q 1 (.done))) Kr ?_
 refine qD J J J J J (cZ _ _ _ _) ?_
 refine qR J J J J (qS (qQ ?_))
 refine qF J (fun k4=>?_) (fun k4=>?_)
 ·
  refine qL (kM J (.q 0 (.q 1 (.q 2 (.q 3 (.q 4 (.q 5 (.q 6 ((.l 7 [] (.q 8 (.done))))))))))) Kr ?_)
  refine qG (k:=2) J J J J υ'52 J ζ'3 J ?_
  refine qP (j:=2) J J J J α'3 Tk Az (by rfl) ?_
  refine qK J J J J (qZ J J J J (qG (k:=0) J J J J υ'166 J ζ'24 J ?_))
  refine qG (k:=2) J J J J υ'24 J ζ'3 J ?_
  refine qP (j:=2) J J J J α'3 Tk Az (by rfl) ?_
  have sp_6:=below_spec o x.vo
  refine qB J J J J J J κ'108 (sp_6) Ts ?_
  rintro ⟨⟩ -
  try simp only [Ca,Na]
  refine qV (qR J J J J (qS (qW [4] (e':=[(4,_)]) J ?_)))
  refine qQ (qJ (kH (qN (rk_fold (b:=b) x (pa:=pa) (pc:=pc) (ta:=ta) (tc:=tc) (oa:=oa) (oc:=oc) (ba:=ba) (bc:=bc) Ts (by rfl) (by rfl) (by rfl) (by rfl) ?_))))
  refine cR J J (()) (by congr 1;rw [decide_eq_decide,can_run' h1,okK_k.2.1 (.inr k4)];try rfl) (by trivial) ?_
  exact Tf
 refine qL (qC (.q 0 (.q 1 (.done))) Kr ?_)
 refine qD J J J J J (cZ _ _ _ _) ?_
 refine qR J J J J (qS (qW [0,3,50,73] (e':=[(0,_),(3,_),(50,_),(73,_)]) J ?_))
 refine qQ ?_
 refine qF J (fun k5=>?_) (fun k5=>?_)
 ·
  refine qL (kM J (.q 0 (.q 1 (.q 2 (.q 3 (.q 4 (.q 5 (.q 6 ((.l 7 [] (.q 8 (.q 9 (.q 10 (.q 11 (.q 12 (.q 13 (.q 14 (.q 15 (.q 16 (.q 17 (.q 18 (.q 19 (.done)))))))))))))))))))))) Kr ?_)
  refine qG (k:=2) J J J J υ'52 J ζ'3 J ?_
  refine qP (j:=2) J J J J α'3 Tk Az (by rfl) ?_
  refine qK J J J J (qZ J J J J (qG (k:=6) J J J J υ'166 J ζ'22 J ?_))
  refine qP (j:=6) J J J J α'22 Tk Az (by rfl) ?_
  refine sR J J J J υ'22 ?_
  have sp_7:=below_spec o ((x.O.length:Nat):Int)
  refine qB J J J J J J κ'108 (sp_7) Ts ?_
  rintro ⟨⟩ -
  try simp only [Ca,Na]
  refine qV (qK J J J J ?_)
  refine cV 83 J (fun hin2=>?_) (fun hin2=>?_)
  ·
   have hel:=owV_at (x:=x) (l:=o) hin2.1 hin2.2
   refine qK J J J J (qZ J J J J (qG (k:=6) J J J J υ'166 J ζ'22 J ?_))
   refine qP (j:=6) J J J J α'22 Tk Az (by rfl) ?_
   refine qG (k:=2) J J J J υ'52 J ζ'3 J ?_
   refine qP (j:=2) J J J J α'3 Tk Az (by rfl) ?_
   refine cK (sz:=0) (k:=o.toNat) (enc:=encZ) (xs:=x.O) J J J J J υ'22 ζ'3 hel (by first | rfl | omega) Om Tk ?_
   intro ib90 io90 ha90 hl90 hc90
   refine cQ (v:=(.int .i64 (owV x o))) (j:=0) (k':=o.toNat) (enc:=encZ) (off:=io90) J J J J α'3 ha90 encZ_len hel Tk (by first | rfl | exact (Ad _).symm | omega) (by rfl) ?_
   refine qD J J J J J (cZ _ _ _ _) ?_
   refine kL J J J J J (qR J J J J (qS (qW [4] (e':=[(4,_)]) J ?_)))
   refine qQ (qJ (kH (qN (rk_fold (b:=b) x (pa:=pa) (pc:=pc) (ta:=ta) (tc:=tc) (oa:=oa) (oc:=oc) (ba:=ba) (bc:=bc) Ts (by rfl) (by rfl) (by rfl) (by rfl) ?_))))
   refine cR J J (()) (by congr 1;rw [decide_eq_decide,can_run' h1,okK_k.2.2.1 (k5)];rw [owF_n];exact ⟨fun h=>⟨hin2.1,by omega,h⟩,fun h=>h.2.2⟩) (by trivial) ?_
   exact Tf
  refine qX J J J J (qX J J J J (qX J J J J (qX J J J J (qX J J J J (qX J J J J (qX J J J J (qX J J J J (qX J J J J ?_))))))))
  refine kD J J J J J (qR J J J J (qS (qW [4] (e':=[(4,_)]) J ?_)))
  refine qQ (qJ (kH (qN (rk_fold (b:=b) x (pa:=pa) (pc:=pc) (ta:=ta) (tc:=tc) (oa:=oa) (oc:=oc) (ba:=ba) (bc:=bc) Ts (by rfl) (by rfl) (by rfl) (by rfl) ?_))))
  refine cR J J (()) (by congr 1;symm;rw [decide_eq_false_iff_not,can_run' h1,okK_k.2.2.1 (k5)];rintro ⟨q1,q2,-⟩;omega) (by trivial) ?_
  exact Tf
 refine qL (qC (.q 0 (.q 1 (.done))) Kr ?_)
 refine qD J J J J J (cZ _ _ _ _) ?_
 refine qR J J J J (qS (qQ ?_))
 refine qF J (fun k6=>?_) (fun k6=>?_)
 ·
  refine qL (kM J (.q 0 (.q 1 (.q 2 (.q 3 (.q 4 (.q 5 (.q 6 ((.l 7 [] (.q 8 (.q 9 (.q 10 (.q 11 (.q 12 (.q 13 (.q 14 (.q 15 (.q 16 (.q 17 (.q 18 (.q 19 (.q 20 (.q 21 (.done)))))))))))))))))))))))) Kr ?_)
  refine qG (k:=2) J J J J υ'52 J ζ'3 J ?_
  refine qP (j:=2) J J J J α'3 Tk Az (by rfl) ?_
  refine qK J J J J (qZ J J J J (qG (k:=6) J J J J υ'166 J ζ'22 J ?_))
  refine qP (j:=6) J J J J α'22 Tk Az (by rfl) ?_
  refine sR J J J J υ'22 ?_
  have sp_8:=below_spec o ((x.O.length:Nat):Int)
  refine qB J J J J J J κ'108 (sp_8) Ts ?_
  rintro ⟨⟩ -
  try simp only [Ca,Na]
  refine qV (qK J J J J ?_)
  refine cV 104 J (fun hin2=>?_) (fun hin2=>?_)
  ·
   have hel:=owV_at (x:=x) (l:=o) hin2.1 hin2.2
   refine qK J J J J (qZ J J J J (qG (k:=6) J J J J υ'166 J ζ'22 J ?_))
   refine qP (j:=6) J J J J α'22 Tk Az (by rfl) ?_
   refine qG (k:=2) J J J J υ'52 J ζ'3 J ?_
   refine qP (j:=2) J J J J α'3 Tk Az (by rfl) ?_
   refine cK (sz:=0) (k:=o.toNat) (enc:=encZ) (xs:=x.O) J J J J J υ'22 ζ'3 hel (by first | rfl | omega) Om Tk ?_
   intro ib111 io111 ha111 hl111 hc111
   refine cQ (v:=(.int .i64 (owV x o))) (j:=0) (k':=o.toNat) (enc:=encZ) (off:=io111) J J J J α'3 ha111 encZ_len hel Tk (by first | rfl | exact (Ad _).symm | omega) (by rfl) ?_
   refine qG (k:=1) J J J J υ'52 J ζ'3 J ?_
   refine qP (j:=1) J J J J α'3 Tk Az (by rfl) ?_
   refine qD J J J J J (cZ _ _ _ _) ?_
   refine kL J J J J J (qR J J J J (qS (qW [4] (e':=[(4,_)]) J ?_)))
   refine qQ (qJ (kH (qN (rk_fold (b:=b) x (pa:=pa) (pc:=pc) (ta:=ta) (tc:=tc) (oa:=oa) (oc:=oc) (ba:=ba) (bc:=bc) Ts (by rfl) (by rfl) (by rfl) (by rfl) ?_))))
   refine cR J J (()) (by congr 1;rw [decide_eq_decide,can_run' h1,okK_k.2.2.2.1 (k6)];rw [owF_s Om];exact ⟨fun h=>⟨hin2.1,by omega,h⟩,fun h=>h.2.2⟩) (by trivial) ?_
   exact Tf
  refine qX J J J J (qX J J J J (qX J J J J (qX J J J J (qX J J J J (qX J J J J (qX J J J J (qX J J J J (qX J J J J ?_))))))))
  refine qX J J J J (qX J J J J (kD J J J J J (qR J J J J (qS (qW [4] (e':=[(4,_)]) J ?_)))))
  refine qQ (qJ (kH (qN (rk_fold (b:=b) x (pa:=pa) (pc:=pc) (ta:=ta) (tc:=tc) (oa:=oa) (oc:=oc) (ba:=ba) (bc:=bc) Ts (by rfl) (by rfl) (by rfl) (by rfl) ?_))))
  refine cR J J (()) (by congr 1;symm;rw [decide_eq_false_iff_not,can_run' h1,okK_k.2.2.2.1 (k6)];rintro ⟨q1,q2,-⟩;omega) (by trivial) ?_
  exact Tf
 refine qL (qC (.q 0 (.q 1 (.done))) Kr ?_)
 refine qD J J J J J (cZ _ _ _ _) ?_
 refine qR J J J J (qS (qW [0,3,50,117] (e':=[(0,_),(3,_),(50,_),(117,_)]) J ?_))
 refine qQ ?_
 refine qF J (fun k7=>?_) (fun k7=>?_)
 ·
  refine qL (kM J (.q 0 (.q 1 (.q 2 (.q 3 (.q 4 (.q 5 (.q 6 ((.l 7 [] (.q 8 (.q 9 (.q 10 (.q 11 (.q 12 (.q 13 (.q 14 (.q 15 (.q 16 (.q 17 (.q 18 (.q 19 (.q 20 (.done))))))))))))))))))))))) Kr ?_)
  refine qG (k:=2) J J J J υ'52 J ζ'3 J ?_
  refine qP (j:=2) J J J J α'3 Tk Az (by rfl) ?_
  refine qK J J J J (qZ J J J J (qG (k:=5) J J J J υ'166 J ζ'164 J ?_))
  refine qP (j:=5) J J J J α'164 Tk Az (by rfl) ?_
  refine sR J J J J υ'164 ?_
  have sp_9:=below_spec o ((x.T.length:Nat):Int)
  refine qB J J J J J J κ'108 (sp_9) Ts ?_
  rintro ⟨⟩ -
  try simp only [Ca,Na]
  refine qV (qK J J J J ?_)
  refine cV 127 J (fun hin2=>?_) (fun hin2=>?_)
  ·
   have hel:=stF_at (x:=x) (t:=o) hin2.1 hin2.2
   refine qK J J J J (qZ J J J J (qG (k:=5) J J J J υ'166 J ζ'164 J ?_))
   refine qP (j:=5) J J J J α'164 Tk Az (by rfl) ?_
   refine qG (k:=2) J J J J υ'52 J ζ'3 J ?_
   refine qP (j:=2) J J J J α'3 Tk Az (by rfl) ?_
   refine cK (sz:=2) (k:=o.toNat) (enc:=enc3) (xs:=x.T) J J J J J υ'164 ζ'133 hel (by first | rfl | omega) Om Tk ?_
   intro ib134 io134 ha134 hl134 hc134
   refine qG (k:=0) J J J J υ'133 J ζ'131 J ?_
   refine cQ (v:=(.int .i64 ((stF x o).1))) (j:=0) (k':=o.toNat) (enc:=enc3) (off:=io134) J J J J α'131 ha134 enc3_len hel Tk (by first | rfl | exact (Ad _).symm | omega) (by rfl) ?_
   refine qD J J J J J (cZ _ _ _ _) ?_
   refine kL J J J J J (qR J J J J (qS (qW [4] (e':=[(4,_)]) J ?_)))
   refine qQ (qJ (kH (qN (rk_fold (b:=b) x (pa:=pa) (pc:=pc) (ta:=ta) (tc:=tc) (oa:=oa) (oc:=oc) (ba:=ba) (bc:=bc) Ts (by rfl) (by rfl) (by rfl) (by rfl) ?_))))
   refine cR J J (()) (by congr 1;rw [decide_eq_decide,can_run' h1,okK_k.2.2.2.2.1 (k7)];omega) (by trivial) ?_
   exact Tf
  refine qX J J J J (qX J J J J (qX J J J J (qX J J J J (qX J J J J (qX J J J J (qX J J J J (qX J J J J (qX J J J J ?_))))))))
  refine qX J J J J (kD J J J J J (qR J J J J (qS (qW [4] (e':=[(4,_)]) J ?_))))
  refine qQ (qJ (kH (qN (rk_fold (b:=b) x (pa:=pa) (pc:=pc) (ta:=ta) (tc:=tc) (oa:=oa) (oc:=oc) (ba:=ba) (bc:=bc) Ts (by rfl) (by rfl) (by rfl) (by rfl) ?_))))
  refine cR J J (()) (by congr 1;symm;rw [decide_eq_false_iff_not,can_run' h1,okK_k.2.2.2.2.1 (k7)];rintro ⟨q1,q2,-⟩;omega) (by trivial) ?_
  exact Tf
 refine qL (qC (.q 0 (.q 1 (.done))) Kr ?_)
 refine qD J J J J J (cZ _ _ _ _) ?_
 refine qR J J J J (qS (qQ ?_))
 refine qF J (fun k8=>?_) (fun k8=>?_)
 ·
  refine qL (kM J (.q 0 (.q 1 (.q 2 (.q 3 (.q 4 (.q 5 (.q 6 ((.l 7 [] (.q 8 (.q 9 (.q 10 (.q 11 (.q 12 (.q 13 (.q 14 (.q 15 (.q 16 (.q 17 (.q 18 (.q 19 (.q 20 (.done))))))))))))))))))))))) Kr ?_)
  refine qG (k:=2) J J J J υ'52 J ζ'3 J ?_
  refine qP (j:=2) J J J J α'3 Tk Az (by rfl) ?_
  refine qK J J J J (qZ J J J J (qG (k:=5) J J J J υ'166 J ζ'164 J ?_))
  refine qP (j:=5) J J J J α'164 Tk Az (by rfl) ?_
  refine sR J J J J υ'164 ?_
  have sp_10:=below_spec o ((x.T.length:Nat):Int)
  refine qB J J J J J J κ'108 (sp_10) Ts ?_
  rintro ⟨⟩ -
  try simp only [Ca,Na]
  refine qV (qK J J J J ?_)
  refine cV 149 J (fun hin2=>?_) (fun hin2=>?_)
  ·
   have hel:=stF_at (x:=x) (t:=o) hin2.1 hin2.2
   refine qK J J J J (qZ J J J J (qG (k:=5) J J J J υ'166 J ζ'164 J ?_))
   refine qP (j:=5) J J J J α'164 Tk Az (by rfl) ?_
   refine qG (k:=2) J J J J υ'52 J ζ'3 J ?_
   refine qP (j:=2) J J J J α'3 Tk Az (by rfl) ?_
   refine cK (sz:=2) (k:=o.toNat) (enc:=enc3) (xs:=x.T) J J J J J υ'164 ζ'133 hel (by first | rfl | omega) Om Tk ?_
   intro ib156 io156 ha156 hl156 hc156
   refine qG (k:=0) J J J J υ'133 J ζ'131 J ?_
   refine cQ (v:=(.int .i64 ((stF x o).1))) (j:=0) (k':=o.toNat) (enc:=enc3) (off:=io156) J J J J α'131 ha156 enc3_len hel Tk (by first | rfl | exact (Ad _).symm | omega) (by rfl) ?_
   refine qD J J J J J (cZ _ _ _ _) ?_
   refine kL J J J J J (qR J J J J (qS (qW [4] (e':=[(4,_)]) J ?_)))
   refine qQ (qJ (kH (qN (rk_fold (b:=b) x (pa:=pa) (pc:=pc) (ta:=ta) (tc:=tc) (oa:=oa) (oc:=oc) (ba:=ba) (bc:=bc) Ts (by rfl) (by rfl) (by rfl) (by rfl) ?_))))
   refine cR J J (()) (by congr 1;rw [decide_eq_decide,can_run' h1,okK_k.2.2.2.2.2.1 (k8)];omega) (by trivial) ?_
   exact Tf
  refine qX J J J J (qX J J J J (qX J J J J (qX J J J J (qX J J J J (qX J J J J (qX J J J J (qX J J J J (qX J J J J ?_))))))))
  refine qX J J J J (kD J J J J J (qR J J J J (qS (qW [4] (e':=[(4,_)]) J ?_))))
  refine qQ (qJ (kH (qN (rk_fold (b:=b) x (pa:=pa) (pc:=pc) (ta:=ta) (tc:=tc) (oa:=oa) (oc:=oc) (ba:=ba) (bc:=bc) Ts (by rfl) (by rfl) (by rfl) (by rfl) ?_))))
  refine cR J J (()) (by congr 1;symm;rw [decide_eq_false_iff_not,can_run' h1,okK_k.2.2.2.2.2.1 (k8)];rintro ⟨q1,q2,-⟩;omega) (by trivial) ?_
  exact Tf
 refine qL (qC (.q 0 (.q 1 (.done))) Kr ?_)
 refine qD J J J J J (cZ _ _ _ _) ?_
 refine qR J J J J (qS (qW [0,3,50,161] (e':=[(0,_),(3,_),(50,_),(161,_)]) J ?_))
 refine qQ ?_
 refine qF J (fun k9=>?_) (fun k9=>?_)
 ·
  refine qL (kM J (.q 0 (.q 1 (.q 2 (.q 3 (.q 4 (.q 5 (.q 6 ((.l 7 [] (.q 8 (.done))))))))))) Kr ?_)
  refine qG (k:=2) J J J J υ'52 J ζ'3 J ?_
  refine qP (j:=2) J J J J α'3 Tk Az (by rfl) ?_
  refine qK J J J J (qZ J J J J (qG (k:=7) J J J J υ'166 J ζ'136 J ?_))
  refine qP (j:=7) J J J J α'136 Tk Az (by rfl) ?_
  refine sR J J J J υ'136 ?_
  have sp_11:=below_spec o ((x.B.length:Nat):Int)
  refine qB J J J J J J κ'108 (sp_11) Ts ?_
  rintro ⟨⟩ -
  try simp only [Ca,Na]
  refine qV (qR J J J J (qS (qW [4] (e':=[(4,_)]) J ?_)))
  refine qQ (qJ (kH (qN (rk_fold (b:=b) x (pa:=pa) (pc:=pc) (ta:=ta) (tc:=tc) (oa:=oa) (oc:=oc) (ba:=ba) (bc:=bc) Ts (by rfl) (by rfl) (by rfl) (by rfl) ?_))))
  refine cR J J (()) (by congr 1;rw [decide_eq_decide,can_run' h1,okK_k.2.2.2.2.2.2.1 (k9)];try rfl) (by trivial) ?_
  exact Tf
 refine qL (qC (.q 0 (.q 1 (.done))) Kr ?_)
 refine qD J J J J J (cZ _ _ _ _) ?_
 refine qR J J J J (qS (qW [3,171] (e':=[(3,_),(171,_)]) J ?_))
 refine qQ ?_
 refine qF J (fun k11=>?_) (fun k11=>?_)
 ·
  refine qL (qC (.q 0 (.q 1 (.q 2 (.q 3 (.done))))) Kr ?_)
  refine qG (k:=2) J J J J υ'52 J ζ'3 J ?_
  refine qP (j:=2) J J J J α'3 Tk Az (by rfl) ?_
  refine qD J J J J J (cZ _ _ _ _) ?_
  refine qR J J J J (qS (qW [4] (e':=[(4,_)]) J ?_))
  refine qQ (qJ (kH (qN (rk_fold (b:=b) x (pa:=pa) (pc:=pc) (ta:=ta) (tc:=tc) (oa:=oa) (oc:=oc) (ba:=ba) (bc:=bc) Ts (by rfl) (by rfl) (by rfl) (by rfl) ?_))))
  refine cR J J (()) (by congr 1;rw [decide_eq_decide,can_run' h1,okK_k.2.2.2.2.2.2.2.1 (k11)];omega) (by trivial) ?_
  exact Tf
 refine qH (kG (qQ (qL (qC (.q 0 (.done)) Kr ?_))))
 refine qR J J J J (qS (qQ (qJ (rk_fold (b:=b) x (pa:=pa) (pc:=pc) (ta:=ta) (tc:=tc) (oa:=oa) (oc:=oc) (ba:=ba) (bc:=bc) Ts (by rfl) (by rfl) (by rfl) (by rfl) ?_))))
 refine cR J J (()) (by congr 1;symm;rw [decide_eq_false_iff_not,can_run' h1];exact fun h=>okK_k.2.2.2.2.2.2.2.2 k1 k2 k3 k4 k5 k6 k7 k8 k9 k11 h.2) (by trivial) ?_
 exact Tf
end Go.Ab.Fe
set_option linter.unusedVariables false
set_option linter.unusedSimpArgs false
set_option maxRecDepth 100000
namespace Go.Ab.Fe
open Go Go.Proofs Go.Ab
theorem rnext_spec (pa:Option Addr) (pc b:Nat) (x:CS) (hx:CInv x) (hn:x.n≤1000000000000000) (pl:List Int) (hpl:x.pa=pl) (k t o:Int):Spec Tryz.prog 88 [.pointer (some ⟨b,0,none⟩),.agg #[.int .i64 k,.int .i64 t,.int .i64 o]] [rk pa pc b x,own 1 encZ pa pc pl] (fun (_:Unit)=>.int .i64 (nxE x k t o)) (fun _=>True) (fun _=>[rk pa pc b (nxF x k t o),own 1 encZ pa pc pl]):=by
 refine kS (n:=123) Tryz.func88 J J J ?_
 intro Γ w0
 simp only [argE,Ca,Na,Zd,Nat.reduceAdd]
 have hn0:=hx.n0
 have htl:=hx.tl
 have hol:=hx.ol
 have hbl:=hx.bl
 refine qL (qC ((.l 0 [] (.q 1 (.done)))) Kr ?_)
 refine sG J J J J (us:=[_,_,_]) J ?_
 intro b3
 refine qV (qR J J J J (qS (qQ (qL (qL (qC (.q 0 (.q 1 (.done))) Kr ?_))))))
 refine qK J J J J (cM J J J J υ'98 ?_)
 refine kF 8 J (v':=.bool false) J ?_
 refine qS (qQ (kN J ?_))
 refine qH (qQ (qL (qC (.q 0 (.q 1 ((.l 2 [] (.q 3 (.done)))))) Kr ?_)))
 refine qK J J J J (kC J J J J α'52 ζ'52 Tk 0 (us:=[_,_,_]) Az J J ?_)
 have sp_1:=rcan_spec pa pc b x hx k t o
 refine qB J J J J J J Tryz.call78 (sp_1) Ts ?_
 rintro ⟨⟩ -
 try simp only [Ca,Na]
 refine qV (qR J J J J (qS (qW [0,3,5] (e':=[(0,_),(3,_),(5,_)]) J ?_)))
 refine qQ (qL (qL (qC (.q 0 (.q 1 (.done))) Kr ?_)))
 refine qK J J J J (rK J J J J ?_)
 refine qS (qQ ?_)
 refine c_cond_np J (fun hc=>?_) (fun hc=>?_)
 ·
  refine qL (qC (.q 0 (.done)) Kr ?_)
  refine qR J J J J (qS (qW [4] (e':=[(4,_)]) J ?_))
  refine qQ (qJ (qN ?_))
  rw [show nxF x k t o=x from if_neg hc]
  refine cR J J (()) (by rw [show nxE x k t o=6 from if_neg hc]) (by trivial) ?_
  exact Tf
 obtain ⟨o5,o7,o9,o10,o11⟩:=can_obj hx hc
 obtain ⟨n5,n6,n7,n9,n10,n11,nn⟩:=nxF_k hc
 obtain ⟨t0,t1,t2⟩:=stF_nz (can_th hc)
 refine qH (qQ (qL (cP (A:=rk pa pc b x) Tk ?_)))
 refine rk_open fun ta tc oa oc ba bc=>?_
 refine qC (.q 0 (.q 1 (.q 2 (.q 3 (.q 4 (.q 5 (.q 6 ((.l 7 [] (.done)))))))))) Kr ?_
 refine qK J J J J (qZ J J J J (qG (k:=8) J J J J υ'166 J ζ'3 J ?_))
 refine qP (j:=8) J J J J α'3 Tk Az (by rfl) ?_
 refine qD J J J J J (cF _ (by exact kY Om Om)) ?_
 refine qZ J J J J (qG (k:=8) J J J J υ'166 J ζ'3 J ?_)
 refine kR (j:=8) J J J J ζ'3 (us:=[_]) J J J Tk Az (by first | decide | (simp;done) | omega) ?_
 simp only [setL,List.set]
 refine qV (qS (qW [0,3] (e':=[(0,_),(3,_)]) J ?_))
 refine qQ (qL (qL (qC (.q 0 (.q 1 (.done))) Kr ?_)))
 refine qG (k:=0) J J J J υ'52 J ζ'50 J ?_
 refine qP (j:=0) J J J J α'50 Tk Az (by rfl) ?_
 refine qS (qQ (kV (qL (qC (.q 0 (.q 1 (.done))) Kr ?_))))
 refine qD J J J J J (cZ _ _ _ _) ?_
 refine qR J J J J (qS (qQ ?_))
 refine qF J (fun k5=>?_) (fun k5=>?_)
 ·
  have hel:=owV_at (x:=x) (l:=o) (o5 (.inl k5)).1 (by have:=(o5 (.inl k5)).2;omega)
  have q5:=o5 (.inl k5)
  refine kM J (.q 0 (.q 1 (.q 2 (.q 3 (.q 4 (.q 5 (.q 6 (.q 7 (.q 8 ((.l 9 [] (.done)))))))))))) Kr ?_
  refine qK J J J J (qZ J J J J (qG (k:=6) J J J J υ'166 J ζ'22 J ?_))
  refine qP (j:=6) J J J J α'22 Tk Az (by rfl) ?_
  refine qG (k:=2) J J J J υ'52 J ζ'3 J ?_
  refine qP (j:=2) J J J J α'3 Tk Az (by rfl) ?_
  refine qG (k:=1) J J J J υ'52 J ζ'3 J ?_
  refine qP (j:=1) J J J J α'3 Tk Az (by rfl) ?_
  refine cK (sz:=0) (k:=o.toNat) (enc:=encZ) (xs:=x.O) J J J J J υ'22 ζ'3 hel (by first | rfl | omega) Om Tk ?_
  intro ib33 io33 ha33 hl33 hc33
  refine sC (j:=0) (k:=o.toNat) (q:=t) (enc:=encZ) (off:=io33) J J J J ζ'3 (us:=[_]) J J J ha33 encZ_len hel Tk (by first | rfl | exact (Ad _).symm | omega) (by first | decide | exact Nat.le_of_ble_eq_true J) (by rfl) ?_
  refine qV (qS (qW [] (e':=[]) J ?_))
  refine kG (qQ (qL (qC (.q 0 (.done)) Kr ?_)))
  refine qR J J J J (qS (qQ (qJ ?_)))
  rw [n5 k5]
  refine rk_fold (b:=b) (⟨x.th,x.va,x.vo,x.lk,x.pa,x.T,x.O.set o.toNat t,x.B,x.n+1⟩) (pa:=pa) (pc:=pc) (ta:=ta) (tc:=tc) (oa:=oa) (oc:=oc) (ba:=ba) (bc:=bc) Ts (by rfl) (by rfl) (by simp) (by rfl) ?_
  refine cR J J (()) (by rw [show nxE x k t o=0 from if_pos hc]) (by trivial) ?_
  exact Tf
 refine qL (qC (.q 0 (.q 1 (.done))) Kr ?_)
 refine qD J J J J J (cZ _ _ _ _) ?_
 refine qR J J J J (qS (qW [0,3,22,34] (e':=[(0,_),(3,_),(22,_),(34,_)]) J ?_))
 refine qQ ?_
 refine qF J (fun k6=>?_) (fun k6=>?_)
 ·
  have hel:=owV_at (x:=x) (l:=o) (o5 (.inr k6)).1 (by have:=(o5 (.inr k6)).2;omega)
  have q5:=o5 (.inr k6)
  refine kM J (.q 0 (.q 1 (.q 2 (.q 3 (.q 4 (.q 5 (.q 6 ((.l 7 [] (.done)))))))))) Kr ?_
  refine qK J J J J (qZ J J J J (qG (k:=6) J J J J υ'166 J ζ'22 J ?_))
  refine qP (j:=6) J J J J α'22 Tk Az (by rfl) ?_
  refine qG (k:=2) J J J J υ'52 J ζ'3 J ?_
  refine qP (j:=2) J J J J α'3 Tk Az (by rfl) ?_
  refine cK (sz:=0) (k:=o.toNat) (enc:=encZ) (xs:=x.O) J J J J J υ'22 ζ'3 hel (by first | rfl | omega) Om Tk ?_
  intro ib42 io42 ha42 hl42 hc42
  refine sC (j:=0) (k:=o.toNat) (q:=(-1)) (enc:=encZ) (off:=io42) J J J J ζ'3 (us:=[_]) J J J ha42 encZ_len hel Tk (by first | rfl | exact (Ad _).symm | omega) (by first | decide | exact Nat.le_of_ble_eq_true J) (by rfl) ?_
  refine qV (qS (qW [] (e':=[]) J ?_))
  refine kG (qQ (qL (qC (.q 0 (.done)) Kr ?_)))
  refine qR J J J J (qS (qQ (qJ ?_)))
  rw [n6 k6]
  refine rk_fold (b:=b) (⟨x.th,x.va,x.vo,x.lk,x.pa,x.T,x.O.set o.toNat (-1),x.B,x.n+1⟩) (pa:=pa) (pc:=pc) (ta:=ta) (tc:=tc) (oa:=oa) (oc:=oc) (ba:=ba) (bc:=bc) Ts (by rfl) (by rfl) (by simp) (by rfl) ?_
  refine cR J J (()) (by rw [show nxE x k t o=0 from if_pos hc]) (by trivial) ?_
  exact Tf
 refine qL (qC (.q 0 (.q 1 (.done))) Kr ?_)
 refine qD J J J J J (cZ _ _ _ _) ?_
 refine qR J J J J (qS (qQ ?_))
 refine qF J (fun k7=>?_) (fun k7=>?_)
 ·
  have q7:=o7 k7
  have hel:=stF_at (x:=x) (t:=o) q7.1 Om
  have hz:(stF x o).2=(0,0):=(stF_inv hx o).2.2.2 (by rw [q7.2.2];decide)
  refine kM J (.q 0 (.q 1 (.q 2 (.q 3 (.q 4 (.q 5 (.q 6 (.q 7 ((.l 8 [] (.done))))))))))) Kr ?_
  refine qK J J J J (qZ J J J J (qG (k:=5) J J J J υ'166 J ζ'164 J ?_))
  refine qP (j:=5) J J J J α'164 Tk Az (by rfl) ?_
  refine qG (k:=2) J J J J υ'52 J ζ'3 J ?_
  refine qP (j:=2) J J J J α'3 Tk Az (by rfl) ?_
  refine cK (sz:=2) (k:=o.toNat) (enc:=enc3) (xs:=x.T) J J J J J υ'164 ζ'133 hel (by first | rfl | omega) Om Tk ?_
  intro ib51 io51 ha51 hl51 hc51
  refine qG (k:=0) J J J J υ'133 J ζ'131 J ?_
  refine sC (j:=0) (k:=o.toNat) (q:=(1,0,0)) (enc:=enc3) (off:=io51) J J J J ζ'131 (us:=[_]) J J J ha51 enc3_len hel Tk (by first | rfl | exact (Ad _).symm | omega) (by first | decide | exact Nat.le_of_ble_eq_true J) (by show [Value.int .i64 1,.int .i64 0,.int .i64 0]=[Value.int .i64 1,.int .i64 (stF x o).2.1,.int .i64 (stF x o).2.2];rw [hz]) ?_
  refine qV (qS (qW [] (e':=[]) J ?_))
  refine kG (qQ (qL (qC (.q 0 (.done)) Kr ?_)))
  refine qR J J J J (qS (qQ (qJ ?_)))
  rw [n7 k7]
  refine rk_fold (b:=b) (⟨x.th,x.va,x.vo,x.lk,x.pa,x.T.set o.toNat (1,0,0),x.O,x.B,x.n+1⟩) (pa:=pa) (pc:=pc) (ta:=ta) (tc:=tc) (oa:=oa) (oc:=oc) (ba:=ba) (bc:=bc) Ts (by rfl) (by simp) (by rfl) (by rfl) ?_
  refine cR J J (()) (by rw [show nxE x k t o=0 from if_pos hc]) (by trivial) ?_
  exact Tf
 refine qL (qC (.q 0 (.q 1 (.done))) Kr ?_)
 refine qD J J J J J (cZ _ _ _ _) ?_
 refine qR J J J J (qS (qW [0,3,22,53] (e':=[(0,_),(3,_),(22,_),(53,_)]) J ?_))
 refine qQ ?_
 refine qF J (fun k9=>?_) (fun k9=>?_)
 ·
  refine qL ?_
  obtain ⟨p0,p1,p2,p3⟩:=o9 k9
  have hop:=opF_at (x:=x) (b:=o) p0 Om
  obtain ⟨pp,hpp⟩:=cX p2
  have hbp:=hx.op _ _ _ hop hpp
  have hpr:=hx.sh.pa pp (List.mem_of_getElem? hpp)
  refine kM J (.q 0 (.q 1 (.q 2 (.q 3 (.q 4 (.q 5 (.q 6 (.q 7 ((.l 8 [3,5,7] ((.l 9 [] (.done))))))))))))) Kr ?_
  refine qK J J J J (qZ J J J J (qG (k:=7) J J J J υ'166 J ζ'136 J ?_))
  refine qP (j:=7) J J J J α'136 Tk Az (by rfl) ?_
  refine qG (k:=2) J J J J υ'52 J ζ'3 J ?_
  refine qP (j:=2) J J J J α'3 Tk Az (by rfl) ?_
  refine cK (sz:=1) (k:=o.toNat) (enc:=enc2) (xs:=x.B) J J J J J υ'136 ζ'149 hop (by first | rfl | omega) Om Tk ?_
  intro ib61 io61 ha61 hl61 hc61
  refine rS (j:=0) (k':=o.toNat) (us:=[_,_]) (enc:=enc2) (off:=io61) J J J J α'149 ζ'149 ha61 enc2_len hop Tk (by first | rfl | exact (Ad _).symm | omega) (by rfl) J ?_
  refine cY J J J ω'149 (zs:=[.int .i64 0,.int .i64 0]) J ?_
  intro b6
  refine qM (q:=7) J J J α'136 Tk Az (by rfl) ?_
  refine qM (q:=2) J J J α'3 Tk Az (by rfl) ?_
  refine ag_loadN_O (j:=0) (k':=o.toNat) (us:=[_,_]) (enc:=enc2) (off:=io61) J J J α'149 ζ'149 ha61 enc2_len hop Tk (by first | rfl | exact (Ad _).symm | omega) (by rfl) J ?_
  refine qV (kR (j:=0) J J J J ζ'149 (us:=[_,_]) J J J Tk Az (by first | decide | (simp;done) | omega) ?_)
  simp only [setL,List.set]
  refine qV (qS (qW [0,3,6] (e':=[(0,_),(3,_),(6,_)]) J ?_))
  refine qQ (qL (kM J (.q 0 (.q 1 (.q 2 (.q 3 (.q 4 (.q 5 (.q 6 (.q 7 (.q 8 (.q 9 (.q 10 (.q 11 ((.l 12 [] (.done))))))))))))))) Kr ?_))
  refine qK J J J J (qZ J J J J (qG (k:=5) J J J J υ'166 J ζ'164 J ?_))
  refine qP (j:=5) J J J J α'164 Tk Az (by rfl) ?_
  refine qG (k:=1) J J J J υ'52 J ζ'3 J ?_
  refine qP (j:=1) J J J J α'3 Tk Az (by rfl) ?_
  refine qG (k:=2) J J J J υ'52 J ζ'3 J ?_
  refine qP (j:=2) J J J J α'3 Tk Az (by rfl) ?_
  refine qG (k:=0) J J J J υ'149 J ζ'3 J ?_
  refine qP (j:=0) J J J J α'3 Tk Az (by rfl) ?_
  refine kB J J J J (vs:=[_,_,_]) (kQ υ'133 ω'133 (ps:=[(0,1),(1,1),(2,1)]) ⟨rfl,ζ'131,rfl,ζ'3,rfl,ζ'3,trivial⟩ rfl) ?_
  refine cK (sz:=2) (k:=t.toNat) (enc:=enc3) (xs:=x.T) J J J J J υ'164 ζ'133 t2 (by first | rfl | omega) Om Tk ?_
  intro ib74 io74 ha74 hl74 hc74
  refine sC (j:=0) (k:=t.toNat) (q:=(2,o,(opF x o).1)) (enc:=enc3) (off:=io74) J J J J ζ'133 (us:=[_,_,_]) J J J ha74 enc3_len t2 Tk (by first | rfl | exact (Ad _).symm | omega) (by first | decide | exact Nat.le_of_ble_eq_true J) (by rfl) ?_
  refine qV (qS (qW [0,3,6] (e':=[(0,_),(3,_),(6,_)]) J ?_))
  refine qQ (qL (qC (.q 0 (.q 1 (.q 2 (.q 3 ((.l 4 [] (.done))))))) Kr ?_))
  refine qG (k:=1) J J J J υ'149 J ζ'3 J ?_
  refine qP (j:=1) J J J J α'3 Tk Az (by rfl) ?_
  refine qD J J J J J (cF _ (by exact kY Om Om)) ?_
  refine qG (k:=1) J J J J υ'149 J ζ'3 J ?_
  refine kR (j:=1) J J J J ζ'3 (us:=[_]) J J J Tk Az (by first | decide | (simp;done) | omega) ?_
  simp only [setL,List.set]
  refine qV (qS (qW [0,3,6] (e':=[(0,_),(3,_),(6,_)]) J ?_))
  refine qQ (qL (qL ?_))
  rw [hpl] at hpp p2
  refine kM J (.q 0 (.q 1 (.q 2 (.q 3 (.q 4 (.q 5 (.q 6 (.q 7 (.q 8 (.q 9 (.q 10 (.q 11 (.done))))))))))))) Kr ?_
  refine qG (k:=1) J J J J υ'149 J ζ'3 J ?_
  refine qP (j:=1) J J J J α'3 Tk Az (by rfl) ?_
  refine qK J J J J (qZ J J J J (qG (k:=0) J J J J υ'166 J ζ'24 J ?_))
  refine qG (k:=4) J J J J υ'24 J ζ'22 J ?_
  refine qP (j:=4) J J J J α'22 Tk Az (by rfl) ?_
  refine qG (k:=2) J J J J υ'52 J ζ'3 J ?_
  refine qP (j:=2) J J J J α'3 Tk Az (by rfl) ?_
  refine cK (sz:=0) (k:=o.toNat) (enc:=encZ) (xs:=pl) J J J J J υ'22 ζ'3 hpp Om (by rw [hpl];omega) Tk ?_
  intro ib88 io88 ha88 hl88 hc88
  refine cQ (v:=(.int .i64 pp)) (j:=0) (k':=o.toNat) (enc:=encZ) (off:=io88) J J J J α'3 ha88 encZ_len hpp Tk (by first | rfl | exact (Ad _).symm | omega) (by rfl) ?_
  refine qD J J J J J (cZ _ _ _ _) ?_
  refine qS (qW [0,3,6,90] (e':=[(0,_),(3,_),(6,_),(90,_)]) J ?_)
  refine qQ ?_
  refine qF J (fun hful=>?_) (fun hful=>?_)
  ·
   refine qC (.q 0 (.q 1 (.q 2 (.q 3 ((.l 4 [] (.done))))))) Kr ?_
   refine qG (k:=0) J J J J υ'149 J ζ'3 J ?_
   refine qP (j:=0) J J J J α'3 Tk Az (by rfl) ?_
   refine qD J J J J J (cF _ (by exact kY Om Om)) ?_
   refine kB J J J J (vs:=[_,_]) (kQ υ'149 ω'149 (ps:=[(0,1),(1,1)]) ⟨rfl,ζ'3,rfl,ζ'3,trivial⟩ rfl) ?_
   refine kR (j:=0) J J J J ζ'149 (us:=[_,_]) J J J Tk Az (by first | decide | (simp;done) | omega) ?_
   simp only [setL,List.set]
   refine qV (qS (qW [0,3,6] (e':=[(0,_),(3,_),(6,_)]) J ?_))
   refine qQ (kM J (.q 0 (.q 1 (.q 2 (.q 3 (.q 4 (.q 5 (.q 6 (.q 7 ((.l 8 [] (.done))))))))))) Kr ?_)
   refine qK J J J J (qZ J J J J (qG (k:=7) J J J J υ'166 J ζ'136 J ?_))
   refine qP (j:=7) J J J J α'136 Tk Az (by rfl) ?_
   refine qG (k:=2) J J J J υ'52 J ζ'3 J ?_
   refine qP (j:=2) J J J J α'3 Tk Az (by rfl) ?_
   refine kC J J J J α'149 ζ'149 Tk 0 (us:=[_,_]) Az J J ?_
   refine cK (sz:=1) (k:=o.toNat) (enc:=enc2) (xs:=x.B) J J J J J υ'136 ζ'149 hop (by first | rfl | omega) Om Tk ?_
   intro ib102 io102 ha102 hl102 hc102
   refine sC (j:=0) (k:=o.toNat) (q:=(((opF x o).1)+1,0)) (enc:=enc2) (off:=io102) J J J J ζ'149 (us:=[_,_]) J J J ha102 enc2_len hop Tk (by first | rfl | exact (Ad _).symm | omega) (by first | decide | exact Nat.le_of_ble_eq_true J) (by rfl) ?_
   refine qV (qS (qW [] (e':=[]) J ?_))
   refine kG (qQ (qL (qC (.q 0 (.done)) Kr ?_)))
   refine qR J J J J (qS (qQ (qJ ?_)))
   rw [n9 k9,hpl,getD_some hpp,← hpl,show arrF (opF x o) pp=((opF x o).1+1,0) from if_pos hful]
   refine rk_fold (b:=b) (⟨x.th,x.va,x.vo,x.lk,x.pa,x.T.set t.toNat (2,o,(opF x o).1),x.O,x.B.set o.toNat ((opF x o).1+1,0),x.n+1⟩) (pa:=pa) (pc:=pc) (ta:=ta) (tc:=tc) (oa:=oa) (oc:=oc) (ba:=ba) (bc:=bc) Ts (by rfl) (by simp) (by rfl) (by simp) ?_
   refine cR J J (()) (by rw [show nxE x k t o=0 from if_pos hc]) (by trivial) ?_
   exact Tf
  refine qH (qQ (kM J (.q 0 (.q 1 (.q 2 (.q 3 (.q 4 (.q 5 (.q 6 (.q 7 ((.l 8 [] (.done))))))))))) Kr ?_))
  refine qK J J J J (qZ J J J J (qG (k:=7) J J J J υ'166 J ζ'136 J ?_))
  refine qP (j:=7) J J J J α'136 Tk Az (by rfl) ?_
  refine qG (k:=2) J J J J υ'52 J ζ'3 J ?_
  refine qP (j:=2) J J J J α'3 Tk Az (by rfl) ?_
  refine kC J J J J α'149 ζ'149 Tk 0 (us:=[_,_]) Az J J ?_
  refine cK (sz:=1) (k:=o.toNat) (enc:=enc2) (xs:=x.B) J J J J J υ'136 ζ'149 hop (by first | rfl | omega) Om Tk ?_
  intro ib102 io102 ha102 hl102 hc102
  refine sC (j:=0) (k:=o.toNat) (q:=((opF x o).1,((opF x o).2)+1)) (enc:=enc2) (off:=io102) J J J J ζ'149 (us:=[_,_]) J J J ha102 enc2_len hop Tk (by first | rfl | exact (Ad _).symm | omega) (by first | decide | exact Nat.le_of_ble_eq_true J) (by rfl) ?_
  refine qV (qS (qW [] (e':=[]) J ?_))
  refine kG (qQ (qL (qC (.q 0 (.done)) Kr ?_)))
  refine qR J J J J (qS (qQ (qJ ?_)))
  rw [n9 k9,hpl,getD_some hpp,← hpl,show arrF (opF x o) pp=((opF x o).1,(opF x o).2+1) from if_neg hful]
  refine rk_fold (b:=b) (⟨x.th,x.va,x.vo,x.lk,x.pa,x.T.set t.toNat (2,o,(opF x o).1),x.O,x.B.set o.toNat ((opF x o).1,(opF x o).2+1),x.n+1⟩) (pa:=pa) (pc:=pc) (ta:=ta) (tc:=tc) (oa:=oa) (oc:=oc) (ba:=ba) (bc:=bc) Ts (by rfl) (by simp) (by rfl) (by simp) ?_
  refine cR J J (()) (by rw [show nxE x k t o=0 from if_pos hc]) (by trivial) ?_
  exact Tf
 refine qL (qC (.q 0 (.q 1 (.done))) Kr ?_)
 refine qD J J J J J (cZ _ _ _ _) ?_
 refine qR J J J J (qS (qQ ?_))
 refine qF J (fun k10=>?_) (fun k10=>?_)
 ·
  refine kM J (.q 0 (.q 1 (.q 2 (.q 3 (.q 4 (.q 5 (.q 6 (.q 7 ((.l 8 [] (.done))))))))))) Kr ?_
  refine qK J J J J (qZ J J J J (qG (k:=5) J J J J υ'166 J ζ'164 J ?_))
  refine qP (j:=5) J J J J α'164 Tk Az (by rfl) ?_
  refine qG (k:=1) J J J J υ'52 J ζ'3 J ?_
  refine qP (j:=1) J J J J α'3 Tk Az (by rfl) ?_
  refine kB J J J J (vs:=[_,_,_]) (kQ υ'133 ω'133 (ps:=[(0,1),(1,1),(2,1)]) ⟨rfl,ζ'131,rfl,ζ'3,rfl,ζ'3,trivial⟩ rfl) ?_
  refine cK (sz:=2) (k:=t.toNat) (enc:=enc3) (xs:=x.T) J J J J J υ'164 ζ'133 t2 (by first | rfl | omega) Om Tk ?_
  intro ib112 io112 ha112 hl112 hc112
  refine sC (j:=0) (k:=t.toNat) (q:=(1,0,0)) (enc:=enc3) (off:=io112) J J J J ζ'133 (us:=[_,_,_]) J J J ha112 enc3_len t2 Tk (by first | rfl | exact (Ad _).symm | omega) (by first | decide | exact Nat.le_of_ble_eq_true J) (by rfl) ?_
  refine qV (qS (qW [] (e':=[]) J ?_))
  refine kG (qQ (qL (qC (.q 0 (.done)) Kr ?_)))
  refine qR J J J J (qS (qQ (qJ ?_)))
  rw [n10 k10]
  refine rk_fold (b:=b) (⟨x.th,x.va,x.vo,x.lk,x.pa,x.T.set t.toNat (1,0,0),x.O,x.B,x.n+1⟩) (pa:=pa) (pc:=pc) (ta:=ta) (tc:=tc) (oa:=oa) (oc:=oc) (ba:=ba) (bc:=bc) Ts (by rfl) (by simp) (by rfl) (by rfl) ?_
  refine cR J J (()) (by rw [show nxE x k t o=0 from if_pos hc]) (by trivial) ?_
  exact Tf
 refine qL (qC (.q 0 (.q 1 (.done))) Kr ?_)
 refine qD J J J J J (cZ _ _ _ _) ?_
 refine qR J J J J (qS (qW [0,3,113] (e':=[(0,_),(3,_),(113,_)]) J ?_))
 refine qQ ?_
 refine qF J (fun k11=>?_) (fun k11=>?_)
 ·
  refine kM J (.q 0 (.q 1 (.q 2 (.q 3 (.q 4 (.q 5 (.q 6 (.q 7 ((.l 8 [] (.done))))))))))) Kr ?_
  refine qK J J J J (qZ J J J J (qG (k:=5) J J J J υ'166 J ζ'164 J ?_))
  refine qP (j:=5) J J J J α'164 Tk Az (by rfl) ?_
  refine qG (k:=1) J J J J υ'52 J ζ'3 J ?_
  refine qP (j:=1) J J J J α'3 Tk Az (by rfl) ?_
  refine kB J J J J (vs:=[_,_,_]) (kQ υ'133 ω'133 (ps:=[(0,1),(1,1),(2,1)]) ⟨rfl,ζ'131,rfl,ζ'3,rfl,ζ'3,trivial⟩ rfl) ?_
  refine cK (sz:=2) (k:=t.toNat) (enc:=enc3) (xs:=x.T) J J J J J υ'164 ζ'133 t2 (by first | rfl | omega) Om Tk ?_
  intro ib122 io122 ha122 hl122 hc122
  refine sC (j:=0) (k:=t.toNat) (q:=(3,0,0)) (enc:=enc3) (off:=io122) J J J J ζ'133 (us:=[_,_,_]) J J J ha122 enc3_len t2 Tk (by first | rfl | exact (Ad _).symm | omega) (by first | decide | exact Nat.le_of_ble_eq_true J) (by rfl) ?_
  refine qV (qS (qW [] (e':=[]) J ?_))
  refine kG (qQ (qL (qC (.q 0 (.done)) Kr ?_)))
  refine qR J J J J (qS (qQ (qJ ?_)))
  rw [n11 k11]
  refine rk_fold (b:=b) (⟨x.th,x.va,x.vo,x.lk,x.pa,x.T.set t.toNat (3,0,0),x.O,x.B,x.n+1⟩) (pa:=pa) (pc:=pc) (ta:=ta) (tc:=tc) (oa:=oa) (oc:=oc) (ba:=ba) (bc:=bc) Ts (by rfl) (by simp) (by rfl) (by rfl) ?_
  refine cR J J (()) (by rw [show nxE x k t o=0 from if_pos hc]) (by trivial) ?_
  exact Tf
 refine qH (kG (qQ (qL (qC (.q 0 (.done)) Kr ?_))))
 refine qR J J J J (qS (qQ (qJ ?_)))
 rw [nn k5 k6 k7 k9 k10 k11]
 refine rk_fold (b:=b) (⟨x.th,x.va,x.vo,x.lk,x.pa,x.T,x.O,x.B,x.n+1⟩) (pa:=pa) (pc:=pc) (ta:=ta) (tc:=tc) (oa:=oa) (oc:=oc) (ba:=ba) (bc:=bc) Ts (by rfl) (by rfl) (by rfl) (by rfl) ?_
 refine cR J J (()) (by rw [show nxE x k t o=0 from if_pos hc]) (by trivial) ?_
 exact Tf
theorem rlen_spec (pa:Option Addr) (pc b:Nat) (x:CS):Spec Tryz.prog 37 [.pointer (some ⟨b,0,none⟩)] [rk pa pc b x] (fun (_:Unit)=>.int .i64 x.n) (fun _=>True) (fun _=>[rk pa pc b x]):=by
 refine kS (n:=9) Tryz.func37 J J J ?_
 intro Γ w0
 simp only [argE,Ca,Na,Zd,Nat.reduceAdd]
 refine qL (qC (.q 0 (.done)) Kr ?_)
 refine qR J J J J (qS (qQ (qL (qL (qC (.q 0 (.q 1 (.done))) Kr ?_)))))
 refine qK J J J J (cM J J J J υ'98 ?_)
 refine kF 4 J (v':=.bool false) J ?_
 refine qS (qQ (kN J ?_))
 refine qH (qQ (qL (cP (A:=rk pa pc b x) Tk ?_)))
 refine rk_open fun ta tc oa oc ba bc=>?_
 refine qC (.q 0 (.q 1 (.q 2 (.q 3 (.q 4 (.done)))))) Kr ?_
 refine qK J J J J (qZ J J J J (qG (k:=8) J J J J υ'166 J ζ'3 J ?_))
 refine qP (j:=8) J J J J α'3 Tk Az (by rfl) ?_
 refine qR J J J J (qS (qW [2] (e':=[(2,_)]) J ?_))
 refine qQ (qJ (rk_fold (b:=b) x (pa:=pa) (pc:=pc) (ta:=ta) (tc:=tc) (oa:=oa) (oc:=oc) (ba:=ba) (bc:=bc) Ts (by rfl) (by rfl) (by rfl) (by rfl) ?_))
 refine cR J J (()) (by first | rfl | (first | rfl | (congr 1;done) | (congr 1 <;> first | rfl | omega | (simp;done) | (simp;omega)))) (by trivial) ?_
 exact Tf
theorem rstand_spec (pa:Option Addr) (pc b:Nat) (x:CS) (hx:CInv x) (t:Int):Spec Tryz.prog 86 [.pointer (some ⟨b,0,none⟩),.int .i64 t] [rk pa pc b x] (fun (_:Unit)=>.tuple #[ev3 (stF x t),.int .i64 (if 0≤t∧t < x.th then 0 else 2)]) (fun _=>True) (fun _=>[rk pa pc b x]):=by
 refine kS (n:=25) Tryz.func86 J J J ?_
 intro Γ w0
 simp only [argE,Ca,Na,Zd,Nat.reduceAdd]
 have htl:=hx.tl
 have hol:=hx.ol
 have hbl:=hx.bl
 refine qL (qC ((.l 0 [] (.q 1 (.done)))) Kr ?_)
 refine cY J J J ω'133 (zs:=[.int .i64 0,.int .i64 0,.int .i64 0]) J ?_
 intro b4
 refine qV (qR J J J J (qS (qQ (qL (qL (qC (.q 0 (.q 1 (.done))) Kr ?_))))))
 refine qK J J J J (cM J J J J υ'98 ?_)
 refine kF 7 J (v':=.bool false) J ?_
 refine qS (qQ (kN J ?_))
 refine qH (qQ (qL (qL (cP (A:=rk pa pc b x) Tk ?_))))
 refine rk_open fun ta tc oa oc ba bc=>?_
 refine qC (.q 0 (.q 1 (.q 2 (.q 3 (.q 4 (.q 5 ((.l 6 [] (.q 7 (.done)))))))))) Kr ?_
 refine qK J J J J (qK J J J J (qZ J J J J (qG (k:=5) J J J J υ'166 J ζ'164 J ?_)))
 refine qP (j:=5) J J J J α'164 Tk Az (by rfl) ?_
 refine sR J J J J υ'164 ?_
 have sp_1:=below_spec t ((x.T.length:Nat):Int)
 refine qB J J J J J J κ'108 (sp_1) Ts ?_
 rintro ⟨⟩ -
 try simp only [Ca,Na]
 refine qV (rK J J J J ?_)
 refine qS (qW [0,1,4,16] (e':=[(0,_),(1,_),(4,_),(16,_)]) J ?_)
 refine qQ ?_
 refine c_cond_np J (fun hin=>?_) (fun hin=>?_)
 ·
  have hno:¬ (0≤t∧t < x.th):=fun h=>hin Om
  refine qL (qC (.q 0 ((.l 1 [] (.q 2 (.done))))) Kr ?_)
  refine kB J J J J (vs:=[_,_,_]) (kQ υ'133 ω'133 (ps:=[(0,1),(1,1),(2,1)]) ⟨rfl,ζ'131,rfl,ζ'3,rfl,ζ'3,trivial⟩ rfl) ?_
  refine kR (j:=0) J J J J ζ'133 (us:=[_,_,_]) J J J Tk Az (by first | decide | (simp;done) | omega) ?_
  simp only [setL,List.set]
  refine qV (qR J J J J (qS (qW [4,5] (e':=[(4,_),(5,_)]) J ?_)))
  refine qQ (qJ (qN (rk_fold (b:=b) x (pa:=pa) (pc:=pc) (ta:=ta) (tc:=tc) (oa:=oa) (oc:=oc) (ba:=ba) (bc:=bc) Ts (by rfl) (by rfl) (by rfl) (by rfl) ?_)))
  refine retL (us:=[_,_]) J ⟨cH J α'133 ζ'133 Tk 0 J (us:=[_,_,_]) J J,sV rfl,trivial⟩ (()) (by rw [if_neg hno,stF_out Om];rfl) (by trivial) ?_
  exact Tf
 have hyes:0≤t∧t < x.th:=by omega
 have hel:=stF_at (x:=x) (t:=t) hin.1 hin.2
 refine qH (qQ (qL (qC (.q 0 (.q 1 (.q 2 (.q 3 (.q 4 (.q 5 (.q 6 ((.l 7 [] (.q 8 (.done))))))))))) Kr ?_)))
 refine qK J J J J (qZ J J J J (qG (k:=5) J J J J υ'166 J ζ'164 J ?_))
 refine qP (j:=5) J J J J α'164 Tk Az (by rfl) ?_
 refine qK J J J J (cK (sz:=2) (k:=t.toNat) (enc:=enc3) (xs:=x.T) J J J J J υ'164 ζ'133 hel (by first | rfl | omega) Om Tk ?_)
 intro ib23 io23 ha23 hl23 hc23
 refine rS (j:=0) (k':=t.toNat) (us:=[_,_,_]) (enc:=enc3) (off:=io23) J J J J α'133 ζ'133 ha23 enc3_len hel Tk (by first | rfl | exact (Ad _).symm | omega) (by rfl) J ?_
 refine kR (j:=0) J J J J ζ'133 (us:=[_,_,_]) J J J Tk Az (by first | decide | (simp;done) | omega) ?_
 simp only [setL,List.set]
 refine qV (qR J J J J (qS (qW [4,5] (e':=[(4,_),(5,_)]) J ?_)))
 refine qQ (qJ (rk_fold (b:=b) x (pa:=pa) (pc:=pc) (ta:=ta) (tc:=tc) (oa:=oa) (oc:=oc) (ba:=ba) (bc:=bc) Ts (by rfl) (by rfl) (by rfl) (by rfl) ?_))
 refine retL (us:=[_,_]) J ⟨cH J α'133 ζ'133 Tk 0 J (us:=[_,_,_]) J J,sV rfl,trivial⟩ (()) (by rw [if_pos hyes];rfl) (by trivial) ?_
 exact Tf
theorem rround_spec (pa:Option Addr) (pc b:Nat) (x:CS) (l:Int):Spec Tryz.prog 84 [.pointer (some ⟨b,0,none⟩),.int .i64 l] [rk pa pc b x] (fun (_:Unit)=>.tuple #[ev2 (if 0≤l∧l < (x.B.length:Int) then opF x l else (0,0)),.int .i64 (if 0≤l∧l < (x.B.length:Int) then 0 else 2)]) (fun _=>True) (fun _=>[rk pa pc b x]):=by
 refine kS (n:=25) Tryz.func84 J J J ?_
 intro Γ w0
 simp only [argE,Ca,Na,Zd,Nat.reduceAdd]
 refine qL (qC ((.l 0 [] (.q 1 (.done)))) Kr ?_)
 refine cY J J J ω'149 (zs:=[.int .i64 0,.int .i64 0]) J ?_
 intro b4
 refine qV (qR J J J J (qS (qQ (qL (qL (qC (.q 0 (.q 1 (.done))) Kr ?_))))))
 refine qK J J J J (cM J J J J υ'98 ?_)
 refine kF 7 J (v':=.bool false) J ?_
 refine qS (qQ (kN J ?_))
 refine qH (qQ (qL (qL (cP (A:=rk pa pc b x) Tk ?_))))
 refine rk_open fun ta tc oa oc ba bc=>?_
 refine qC (.q 0 (.q 1 (.q 2 (.q 3 (.q 4 (.q 5 ((.l 6 [] (.q 7 (.done)))))))))) Kr ?_
 refine qK J J J J (qK J J J J (qZ J J J J (qG (k:=7) J J J J υ'166 J ζ'136 J ?_)))
 refine qP (j:=7) J J J J α'136 Tk Az (by rfl) ?_
 refine sR J J J J υ'136 ?_
 have sp_1:=below_spec l ((x.B.length:Nat):Int)
 refine qB J J J J J J κ'108 (sp_1) Ts ?_
 rintro ⟨⟩ -
 try simp only [Ca,Na]
 refine qV (rK J J J J ?_)
 refine qS (qW [0,1,4,16] (e':=[(0,_),(1,_),(4,_),(16,_)]) J ?_)
 refine qQ ?_
 refine c_cond_np J (fun hin=>?_) (fun hin=>?_)
 ·
  have hno:¬ (0≤l∧l < (x.B.length:Int)):=fun h=>hin Om
  refine qL (qC (.q 0 ((.l 1 [] (.q 2 (.done))))) Kr ?_)
  refine kB J J J J (vs:=[_,_]) (kQ υ'149 ω'149 (ps:=[(0,1),(1,1)]) ⟨rfl,ζ'3,rfl,ζ'3,trivial⟩ rfl) ?_
  refine kR (j:=0) J J J J ζ'149 (us:=[_,_]) J J J Tk Az (by first | decide | (simp;done) | omega) ?_
  simp only [setL,List.set]
  refine qV (qR J J J J (qS (qW [4,5] (e':=[(4,_),(5,_)]) J ?_)))
  refine qQ (qJ (qN (rk_fold (b:=b) x (pa:=pa) (pc:=pc) (ta:=ta) (tc:=tc) (oa:=oa) (oc:=oc) (ba:=ba) (bc:=bc) Ts (by rfl) (by rfl) (by rfl) (by rfl) ?_)))
  refine retL (us:=[_,_]) J ⟨cH J α'149 ζ'149 Tk 0 J (us:=[_,_]) J J,sV rfl,trivial⟩ (()) (by rw [if_neg hno,if_neg hno];rfl) (by trivial) ?_
  exact Tf
 have hyes:0≤l∧l < (x.B.length:Int):=by omega
 have hel:=opF_at (x:=x) (b:=l) hin.1 hin.2
 refine qH (qQ (qL (qC (.q 0 (.q 1 (.q 2 (.q 3 (.q 4 (.q 5 (.q 6 ((.l 7 [] (.q 8 (.done))))))))))) Kr ?_)))
 refine qK J J J J (qZ J J J J (qG (k:=7) J J J J υ'166 J ζ'136 J ?_))
 refine qP (j:=7) J J J J α'136 Tk Az (by rfl) ?_
 refine qK J J J J (cK (sz:=1) (k:=l.toNat) (enc:=enc2) (xs:=x.B) J J J J J υ'136 ζ'149 hel (by first | rfl | omega) Om Tk ?_)
 intro ib23 io23 ha23 hl23 hc23
 refine rS (j:=0) (k':=l.toNat) (us:=[_,_]) (enc:=enc2) (off:=io23) J J J J α'149 ζ'149 ha23 enc2_len hel Tk (by first | rfl | exact (Ad _).symm | omega) (by rfl) J ?_
 refine kR (j:=0) J J J J ζ'149 (us:=[_,_]) J J J Tk Az (by first | decide | (simp;done) | omega) ?_
 simp only [setL,List.set]
 refine qV (qR J J J J (qS (qW [4,5] (e':=[(4,_),(5,_)]) J ?_)))
 refine qQ (qJ (rk_fold (b:=b) x (pa:=pa) (pc:=pc) (ta:=ta) (tc:=tc) (oa:=oa) (oc:=oc) (ba:=ba) (bc:=bc) Ts (by rfl) (by rfl) (by rfl) (by rfl) ?_))
 refine retL (us:=[_,_]) J ⟨cH J α'149 ζ'149 Tk 0 J (us:=[_,_]) J J,sV rfl,trivial⟩ (()) (by rw [if_pos hyes,if_pos hyes];rfl) (by trivial) ?_
 exact Tf
theorem rcopy_spec (pa:Option Addr) (pc b:Nat) (x:CS) (hx:CInv x):Spec Tryz.prog 93 [.pointer (some ⟨b,0,none⟩)] [rk pa pc b x] (fun (r:Nat)=>.pointer (some ⟨r,0,none⟩)) (fun r=>True) (fun r=>[rk pa pc b x,rk pa pc r x]):=by
 refine kS (n:=95) Tryz.func93 J J J ?_
 intro Γ w0
 simp only [argE,Ca,Na,Zd,Nat.reduceAdd]
 have htl:=hx.tl
 have hol:=hx.ol
 have hbl:=hx.bl
 have h4:=hx.sh.pl
 have h5:=hx.sh.th
 have h6:=hx.sh.lk
 refine qL (qC (.q 0 (.done)) Kr ?_)
 refine qR J J J J (qS (qQ (qL (qL (qC (.q 0 (.q 1 (.done))) Kr ?_)))))
 refine qK J J J J (cM J J J J υ'98 ?_)
 refine kF 8 J (v':=.bool false) J ?_
 refine qS (qQ (kN J ?_))
 refine qH (qQ (qL (cP (A:=rk pa pc b x) Tk ?_)))
 refine rk_open fun ta tc oa oc ba bc=>?_
 refine kM J (.q 0 (.q 1 (.q 2 (.q 3 (.q 4 (.q 5 (.q 6 (.q 7 (.q 8 ((.l 9 [] (.q 10 (.done))))))))))))) Kr ?_
 refine qK J J J J (qZ J J J J (qG (k:=0) J J J J υ'166 J ζ'24 J ?_))
 refine kC J J J J α'24 ζ'24 Tk 0 (us:=[_,_,_,_,_]) Az J J ?_
 refine qK J J J J (qZ J J J J (qG (k:=8) J J J J υ'166 J ζ'3 J ?_))
 refine qP (j:=8) J J J J α'3 Tk Az (by rfl) ?_
 refine kB J J J J (vs:=[_,_,_,_,_,_,_,_,_]) (kQ υ'166 Tryz.zeroValue166 (ps:=[(0,5),(5,1),(6,1),(7,1),(8,1)]) ⟨rfl,ζ'24,rfl,ζ'164,rfl,ζ'22,rfl,ζ'136,rfl,ζ'3,trivial⟩ rfl) ?_
 refine sG J J J J (us:=[_,_,_,_,_,_,_,_,_]) J ?_
 intro b18
 refine qV (qR J J J J (qS (qW [0,3] (e':=[(0,_),(3,_)]) J ?_)))
 refine qQ (qL (qL (qC (.q 0 (.done)) Kr ?_)))
 refine qR J J J J (qS (qQ (kV (cL (fun _ h=>sY (sz:=3) (enc:=enc3) h) ?_))))
 refine sS (α:=Nat × Option Addr × Nat) (fun (x_:Nat × Option Addr × Nat)=>match x_ with | (i,ai,ci)=>i≤x.T.length∧True) (fun (x_:Nat × Option Addr × Nat)=>match x_ with | (i,ai,ci)=>[(4,.int .i64 ((i:Nat):Int))]) (fun (x_:Nat × Option Addr × Nat)=>match x_ with | (i,ai,ci)=>[cells b18 0 [.int .i64 x.th,.int .i64 x.va,.int .i64 x.vo,.int .i64 x.lk,.slice pa x.pa.length pc,.slice ai i ci,.slice none 0 0,.slice none 0 0,.int .i64 x.n],own 3 enc3 ai ci (x.T.take i)]) (fun (x_:Nat × Option Addr × Nat)=>match x_ with | (i,ai,ci)=>x.T.length - i) [0,3] (er:=[(0,_),(3,_)]) J (0,none,0) ?_ (by exact ⟨rfl,trivial⟩) (by (try dsimp only);(try simp only [Ad,Zd]);(repeat ((with_reducible apply Z2);focus (first | (with_reducible (repeat (first | exact Z0 | apply Z1));done) | (repeat (first | exact Z0 | apply Z1)))));exact Z3) ?_
 · exact ⟨Nat.zero_le _,trivial⟩
 rintro ⟨i,ai,ci⟩ ⟨hle_i,hz_i⟩
 try simp only [Ca,Na]
 refine qL (qL (qC (.q 0 (.q 1 (.q 2 (.q 3 (.q 4 (.q 5 (.q 6 (.done)))))))) Kr ?_))
 refine qK J J J J (qK J J J J (qZ J J J J (qG (k:=5) J J J J υ'166 J ζ'164 J ?_)))
 refine qP (j:=5) J J J J α'164 Tk Az (by rfl) ?_
 refine sR J J J J υ'164 ?_
 refine qD J J J J J (sK _ _ _ _) ?_
 refine qS (qW [0,3,4,25] (e':=[(0,_),(3,_),(4,_),(25,_)]) J ?_)
 refine qQ ?_
 refine qF J (fun hlt=>?_) (fun hlt=>?_)
 ·
  refine qH (qQ (qL (kV (kM J (.q 0 (.q 1 (.q 2 (.q 3 (.q 4 (.q 5 (.q 6 (.q 7 (.q 8 (.q 9 (.q 10 (.q 11 ((.l 12 [4] ((.l 13 [] (.q 14 (.q 15 ((.l 16 [] (.done))))))))))))))))))))) Kr ?_))))
  refine qK J J J J (qK J J J J (qZ J J J J (qG (k:=5) J J J J υ'166 J ζ'164 J ?_)))
  refine qP (j:=5) J J J J α'164 Tk Az (by rfl) ?_
  refine qK J J J J (qZ J J J J (qG (k:=5) J J J J υ'166 J ζ'164 J ?_))
  refine qP (j:=5) J J J J α'164 Tk Az (by rfl) ?_
  refine qK J J J J ?_
  obtain ⟨zi,hzi⟩:=cX (l:=x.T) (i:=i) (by first | omega | (simp;done) | (simp;omega))
  refine cK (sz:=2) (k:=i) (enc:=enc3) (xs:=x.T) J J J J J υ'164 ζ'133 hzi (by first | rfl | omega) Om Tk ?_
  intro ib38 io38 ha38 hl38 hc38
  refine rS (j:=0) (k':=i) (us:=[_,_,_]) (enc:=enc3) (off:=io38) J J J J α'133 ζ'133 ha38 enc3_len hzi Tk (by first | rfl | exact (Ad _).symm | omega) (by rfl) J ?_
  refine kJ J J J J (cW (us:=[_,_,_]) υ'164 ζ'133 J ω'133 J J J) ?_
  intro b40
  refine qM (q:=5) J J J α'164 Tk Az (by rfl) ?_
  refine qV (cN (sz:=3) (enc:=enc3) (xs:=(x.T.take i)) J J J J J υ'164 Tryz.typeInfo133 J J J (by decide) Tk Tk (by first | rfl | omega | (simp;done) | (simp;omega)) (ys:=[zi]) (cJ cB) (by rfl) (by first | rfl | omega) (enc3_len) (enc3_one) Om (by show _*24≤_;omega) ?_)
  intro ao41 cp41
  refine qV (qZ J J J J (qG (k:=5) J J J J υ'166 J ζ'164 J ?_))
  refine kR (j:=5) J J J J ζ'164 (us:=[_]) J J J Tk Az (by first | decide | (simp;done) | omega) ?_
  simp only [setL,List.set]
  refine qV (qS (qW [0,3,4] (e':=[(0,_),(3,_),(4,_)]) J ?_))
  refine kG (qQ (qC (.q 0 (.q 1 (.q 2 (.done)))) Kr ?_))
  refine qK J J J J (qD J J J J J (cF _ (by exact kY Om Om)) ?_)
  refine qR J J J J (qS (qQ ?_))
  rw [← take_next hzi]
  refine kZ (x:=(i,ai,ci)) ((i+1,ao41,cp41)) ?_ ?_ ?_ ?_
  · try dsimp only
    exact ⟨by omega,trivial⟩
  · show x.T.length - (i+1) < x.T.length - i;omega
  · exact ⟨rfl,rfl,rfl,trivial⟩
  · (try simp only [Ca,Na]);exact Tf
 refine cS (qY (qY (kK (qQ (qL (qL (qC (.q 0 (.done)) Kr ?_)))))))
 refine qR J J J J (qS (qQ (kV (cL (fun _ h=>sY (sz:=1) (enc:=encZ) h) ?_))))
 refine sS (α:=Nat × Option Addr × Nat) (fun (x_:Nat × Option Addr × Nat)=>match x_ with | (j,aj,cj)=>j≤x.O.length∧True) (fun (x_:Nat × Option Addr × Nat)=>match x_ with | (j,aj,cj)=>[(5,.int .i64 ((j:Nat):Int))]) (fun (x_:Nat × Option Addr × Nat)=>match x_ with | (j,aj,cj)=>[cells b18 0 [.int .i64 x.th,.int .i64 x.va,.int .i64 x.vo,.int .i64 x.lk,.slice pa x.pa.length pc,.slice ai i ci,.slice aj j cj,.slice none 0 0,.int .i64 x.n],own 3 enc3 ai ci (x.T.take i),own 1 encZ aj cj (x.O.take j)]) (fun (x_:Nat × Option Addr × Nat)=>match x_ with | (j,aj,cj)=>x.O.length - j) [0,3] (er:=[(0,_),(3,_)]) J (0,none,0) ?_ (by exact ⟨rfl,trivial⟩) (by (try dsimp only);(try simp only [Ad,Zd]);(repeat ((with_reducible apply Z2);focus (first | (with_reducible (repeat (first | exact Z0 | apply Z1));done) | (repeat (first | exact Z0 | apply Z1)))));exact Z3) ?_
 · exact ⟨Nat.zero_le _,trivial⟩
 rintro ⟨j,aj,cj⟩ ⟨hle_j,hz_j⟩
 try simp only [Ca,Na]
 refine qL (qL (qC (.q 0 (.q 1 (.q 2 (.q 3 (.q 4 (.q 5 (.q 6 (.done)))))))) Kr ?_))
 refine qK J J J J (qK J J J J (qZ J J J J (qG (k:=6) J J J J υ'166 J ζ'22 J ?_)))
 refine qP (j:=6) J J J J α'22 Tk Az (by rfl) ?_
 refine sR J J J J υ'22 ?_
 refine qD J J J J J (sK _ _ _ _) ?_
 refine qS (qW [0,3,5,50] (e':=[(0,_),(3,_),(5,_),(50,_)]) J ?_)
 refine qQ ?_
 refine qF J (fun hlt=>?_) (fun hlt=>?_)
 ·
  refine qH (qQ (qL (kV (kM J (.q 0 (.q 1 (.q 2 (.q 3 (.q 4 (.q 5 (.q 6 (.q 7 (.q 8 (.q 9 (.q 10 (.q 11 ((.l 12 [4] ((.l 13 [] (.q 14 (.q 15 ((.l 16 [] (.done))))))))))))))))))))) Kr ?_))))
  refine qK J J J J (qK J J J J (qZ J J J J (qG (k:=6) J J J J υ'166 J ζ'22 J ?_)))
  refine qP (j:=6) J J J J α'22 Tk Az (by rfl) ?_
  refine qK J J J J (qZ J J J J (qG (k:=6) J J J J υ'166 J ζ'22 J ?_))
  refine qP (j:=6) J J J J α'22 Tk Az (by rfl) ?_
  refine qK J J J J ?_
  obtain ⟨zj,hzj⟩:=cX (l:=x.O) (i:=j) (by first | omega | (simp;done) | (simp;omega))
  refine cK (sz:=0) (k:=j) (enc:=encZ) (xs:=x.O) J J J J J υ'22 ζ'3 hzj (by first | rfl | omega) Om Tk ?_
  intro ib63 io63 ha63 hl63 hc63
  refine cQ (v:=(.int .i64 zj)) (j:=0) (k':=j) (enc:=encZ) (off:=io63) J J J J α'3 ha63 encZ_len hzj Tk (by first | rfl | exact (Ad _).symm | omega) (by rfl) ?_
  refine kJ J J J J (cW (us:=[_]) υ'22 ζ'3 J ω'3 J J J) ?_
  intro b65
  refine qM (q:=6) J J J α'22 Tk Az (by rfl) ?_
  refine qV (cN (sz:=1) (enc:=encZ) (xs:=(x.O.take j)) J J J J J υ'22 τ'3 J J J (by decide) Tk Tk (by first | rfl | omega | (simp;done) | (simp;omega)) (ys:=[zj]) (cJ cB) (by rfl) (by first | rfl | omega) (encZ_len) (encZ_one) Om (by show _*8≤_;omega) ?_)
  intro ao66 cp66
  refine qV (qZ J J J J (qG (k:=6) J J J J υ'166 J ζ'22 J ?_))
  refine kR (j:=6) J J J J ζ'22 (us:=[_]) J J J Tk Az (by first | decide | (simp;done) | omega) ?_
  simp only [setL,List.set]
  refine qV (qS (qW [0,3,5] (e':=[(0,_),(3,_),(5,_)]) J ?_))
  refine kG (qQ (qC (.q 0 (.q 1 (.q 2 (.done)))) Kr ?_))
  refine qK J J J J (qD J J J J J (cF _ (by exact kY Om Om)) ?_)
  refine qR J J J J (qS (qQ ?_))
  rw [← take_next hzj]
  refine kZ (x:=(j,aj,cj)) ((j+1,ao66,cp66)) ?_ ?_ ?_ ?_
  · try dsimp only
    exact ⟨by omega,trivial⟩
  · show x.O.length - (j+1) < x.O.length - j;omega
  · exact ⟨rfl,rfl,rfl,trivial⟩
  · (try simp only [Ca,Na]);exact Tf
 refine cS (qY (qY (kK (qQ (qL (qL (qC (.q 0 (.done)) Kr ?_)))))))
 refine qR J J J J (qS (qQ (kV (cL (fun _ h=>sY (sz:=2) (enc:=enc2) h) ?_))))
 refine sS (α:=Nat × Option Addr × Nat) (fun (x_:Nat × Option Addr × Nat)=>match x_ with | (m,am,cm)=>m≤x.B.length∧True) (fun (x_:Nat × Option Addr × Nat)=>match x_ with | (m,am,cm)=>[(6,.int .i64 ((m:Nat):Int))]) (fun (x_:Nat × Option Addr × Nat)=>match x_ with | (m,am,cm)=>[cells b18 0 [.int .i64 x.th,.int .i64 x.va,.int .i64 x.vo,.int .i64 x.lk,.slice pa x.pa.length pc,.slice ai i ci,.slice aj j cj,.slice am m cm,.int .i64 x.n],own 3 enc3 ai ci (x.T.take i),own 1 encZ aj cj (x.O.take j),own 2 enc2 am cm (x.B.take m)]) (fun (x_:Nat × Option Addr × Nat)=>match x_ with | (m,am,cm)=>x.B.length - m) [0,3] (er:=[(0,_),(3,_)]) J (0,none,0) ?_ (by exact ⟨rfl,trivial⟩) (by (try dsimp only);(try simp only [Ad,Zd]);(repeat ((with_reducible apply Z2);focus (first | (with_reducible (repeat (first | exact Z0 | apply Z1));done) | (repeat (first | exact Z0 | apply Z1)))));exact Z3) ?_
 · exact ⟨Nat.zero_le _,trivial⟩
 rintro ⟨m,am,cm⟩ ⟨hle_m,hz_m⟩
 try simp only [Ca,Na]
 refine qL (qL (qC (.q 0 (.q 1 (.q 2 (.q 3 (.q 4 (.q 5 (.q 6 (.done)))))))) Kr ?_))
 refine qK J J J J (qK J J J J (qZ J J J J (qG (k:=7) J J J J υ'166 J ζ'136 J ?_)))
 refine qP (j:=7) J J J J α'136 Tk Az (by rfl) ?_
 refine sR J J J J υ'136 ?_
 refine qD J J J J J (sK _ _ _ _) ?_
 refine qS (qW [0,3,6,75] (e':=[(0,_),(3,_),(6,_),(75,_)]) J ?_)
 refine qQ ?_
 refine qF J (fun hlt=>?_) (fun hlt=>?_)
 ·
  refine qH (qQ (qL (kV (kM J (.q 0 (.q 1 (.q 2 (.q 3 (.q 4 (.q 5 (.q 6 (.q 7 (.q 8 (.q 9 (.q 10 (.q 11 ((.l 12 [4] ((.l 13 [] (.q 14 (.q 15 ((.l 16 [] (.done))))))))))))))))))))) Kr ?_))))
  refine qK J J J J (qK J J J J (qZ J J J J (qG (k:=7) J J J J υ'166 J ζ'136 J ?_)))
  refine qP (j:=7) J J J J α'136 Tk Az (by rfl) ?_
  refine qK J J J J (qZ J J J J (qG (k:=7) J J J J υ'166 J ζ'136 J ?_))
  refine qP (j:=7) J J J J α'136 Tk Az (by rfl) ?_
  refine qK J J J J ?_
  obtain ⟨zm,hzm⟩:=cX (l:=x.B) (i:=m) (by first | omega | (simp;done) | (simp;omega))
  refine cK (sz:=1) (k:=m) (enc:=enc2) (xs:=x.B) J J J J J υ'136 ζ'149 hzm (by first | rfl | omega) Om Tk ?_
  intro ib88 io88 ha88 hl88 hc88
  refine rS (j:=0) (k':=m) (us:=[_,_]) (enc:=enc2) (off:=io88) J J J J α'149 ζ'149 ha88 enc2_len hzm Tk (by first | rfl | exact (Ad _).symm | omega) (by rfl) J ?_
  refine kJ J J J J (cW (us:=[_,_]) υ'136 ζ'149 J ω'149 J J J) ?_
  intro b90
  refine qM (q:=7) J J J α'136 Tk Az (by rfl) ?_
  refine qV (cN (sz:=2) (enc:=enc2) (xs:=(x.B.take m)) J J J J J υ'136 τ'149 J J J (by decide) Tk Tk (by first | rfl | omega | (simp;done) | (simp;omega)) (ys:=[zm]) (cJ cB) (by rfl) (by first | rfl | omega) (enc2_len) (enc2_one) Om (by show _*16≤_;omega) ?_)
  intro ao91 cp91
  refine qV (qZ J J J J (qG (k:=7) J J J J υ'166 J ζ'136 J ?_))
  refine kR (j:=7) J J J J ζ'136 (us:=[_]) J J J Tk Az (by first | decide | (simp;done) | omega) ?_
  simp only [setL,List.set]
  refine qV (qS (qW [0,3,6] (e':=[(0,_),(3,_),(6,_)]) J ?_))
  refine kG (qQ (qC (.q 0 (.q 1 (.q 2 (.done)))) Kr ?_))
  refine qK J J J J (qD J J J J J (cF _ (by exact kY Om Om)) ?_)
  refine qR J J J J (qS (qQ ?_))
  rw [← take_next hzm]
  refine kZ (x:=(m,am,cm)) ((m+1,ao91,cp91)) ?_ ?_ ?_ ?_
  · try dsimp only
    exact ⟨by omega,trivial⟩
  · show x.B.length - (m+1) < x.B.length - m;omega
  · exact ⟨rfl,rfl,rfl,trivial⟩
  · (try simp only [Ca,Na]);exact Tf
 refine cS (qY (qY (kK (qQ (qL (qC (.q 0 (.q 1 (.done))) Kr ?_))))))
 refine qK J J J J (qR J J J J (qS (qW [2] (e':=[(2,_)]) J ?_)))
 refine qQ (qJ ?_)
 obtain rfl:i=x.T.length:=by omega
 obtain rfl:j=x.O.length:=by omega
 obtain rfl:m=x.B.length:=by omega
 rw [List.take_length,List.take_length,List.take_length]
 refine rk_fold (b:=b) x (pa:=pa) (pc:=pc) (ta:=ta) (tc:=tc) (oa:=oa) (oc:=oc) (ba:=ba) (bc:=bc) Ts (by rfl) (by rfl) (by rfl) (by rfl) ?_
 refine rk_fold (b:=b18) x (pa:=pa) (pc:=pc) (ta:=ai) (tc:=ci) (oa:=aj) (oc:=cj) (ba:=am) (bc:=cm) Ts (by rfl) (by rfl) (by rfl) (by rfl) ?_
 refine cR J J (b18) (by first | rfl | (first | rfl | (congr 1;done) | (congr 1 <;> first | rfl | omega | (simp;done) | (simp;omega)))) (by trivial) ?_
 exact Tf
end Go.Ab.Fe
set_option linter.unusedVariables false
set_option linter.unusedSimpArgs false
set_option maxRecDepth 100000
namespace Go.Ab.Fe
open Go Go.Proofs Go.Ab
abbrev nxT (x:CS) (e:T3):CS:=nxF x e.1 e.2.1 e.2.2
abbrev canT (x:CS) (e:T3):Prop:=canF x e.1 e.2.1 e.2.2
/-- Behind the first i events, those that cannot be next left out. -/
def sN (x:CS) (es:List T3) (i:Nat):CS:=(es.take i).foldl nxT x
theorem nxF_pa (x:CS) (k t o:Int):(nxF x k t o).pa=x.pa∧(nxF x k t o).th=x.th∧(nxF x k t o).va=x.va∧(nxF x k t o).vo=x.vo∧(nxF x k t o).lk=x.lk:=by
  unfold nxF nextF;split
  · repeat' split
    all_goals exact ⟨rfl,rfl,rfl,rfl,rfl⟩
  · exact ⟨rfl,rfl,rfl,rfl,rfl⟩
/-- All of the first i events can be. -/
def allC (x:CS) (es:List T3) (i:Nat):Prop:=∀ (j:Nat) (e:T3),j < i→es[j]?=some e→canT (sN x es j) e
def leastN:CS→List T3→Nat
  | _,[]=>0
  | x,e::es=>if canT x e then leastN (nxT x e) es+1 else 0
def lsR (th va vo lk:Int) (pl:List Int) (es:List T3):Int:=if OkS th va vo lk pl then ((leastN (newF th va vo lk pl) es:Nat):Int) else 0
theorem rnew_spec (th va vo lk:Int) (pl:List Int) (ao:Option Addr) (n c:Nat) (A:HProp) (hr:RdS A ao (pl.flatMap encZ)) (hn:pl.length=n) (hb:n≤4000000) (hok:OkS th va vo lk pl):Spec Tryz.prog 31 [.agg #[.int .i64 th,.int .i64 va,.int .i64 vo,.int .i64 lk,.slice ao n c]] [A] (fun (r:Nat × Option Addr × Nat)=>.tuple #[.pointer (some ⟨r.1,0,none⟩),.int .i64 0]) (fun r=>True) (fun r=>[A,own 1 encZ r.2.1 r.2.2 pl,rk r.2.1 r.2.2 r.1 (newF th va vo lk pl)]):=by
 refine kS (n:=92) Tryz.func31 J J J ?_
 intro Γ w0
 simp only [argE,Ca,Na,Zd,Nat.reduceAdd]
 have h1_:=hok.th
 have h2_:=hok.lk
 have h3_:=hok.pl
 refine qL (qC ((.l 0 [] (.q 1 (.q 2 (.done))))) Kr ?_)
 refine sG J J J J (us:=[_,_,_,_,_]) J ?_
 intro b1
 refine qV (qR J J J J (qR J J J J (qS (qQ (qL (qC (.q 0 ((.l 1 [] (.q 2 (.done))))) Kr ?_))))))
 refine kC J J J J α'24 ζ'24 Tk 0 (us:=[_,_,_,_,_]) Az J J ?_
 have sp_1:=rshape_spec th va vo lk pl ao n c A (hr) Ln Om
 refine qB J J J J J J Tryz.call74 (sp_1) Ts ?_
 rintro ⟨⟩ -
 try simp only [Ca,Na]
 refine qV (kF 10 J (v':=.int .i64 0) (by rw [if_pos hok]) ?_)
 refine qR J J J J (qS (qW [1,4] (e':=[(1,_),(4,_)]) J ?_))
 refine qQ (qL (qL (qC (.q 0 (.q 1 (.done))) Kr ?_)))
 refine qK J J J J (qD J J J J J (b_neq _ _ _ _) ?_)
 refine kF 12 J (v':=.bool false) (by first | rfl | simp) ?_
 refine qS (qQ (kN J ?_))
 refine qH (qQ (qL (qC (.q 0 (.q 1 ((.l 2 [] (.q 3 (.done)))))) Kr ?_)))
 refine kC J J J J α'24 ζ'24 Tk 0 (us:=[_,_,_,_,_]) Az J J ?_
 refine kB J J J J (vs:=[_,_,_,_,_,_,_,_,_]) (kQ υ'166 Tryz.zeroValue166 (ps:=[(0,5),(5,1),(6,1),(7,1),(8,1)]) ⟨rfl,ζ'24,rfl,ζ'164,rfl,ζ'22,rfl,ζ'136,rfl,ζ'3,trivial⟩ rfl) ?_
 refine sG J J J J (us:=[_,_,_,_,_,_,_,_,_]) J ?_
 intro b16
 refine qV (qR J J J J (qS (qW [1,5] (e':=[(1,_),(5,_)]) J ?_)))
 refine qQ (qL (qC (.q 0 (.q 1 (.q 2 (.q 3 ((.l 4 [] (.done))))))) Kr ?_))
 refine qK J J J J (qZ J J J J (qG (k:=0) J J J J υ'166 J ζ'24 J ?_))
 refine qG (k:=4) J J J J υ'24 J ζ'22 J ?_
 refine kR (j:=4) J J J J ζ'22 (us:=[_]) J J J Tk Az (by first | decide | (simp;done) | omega) ?_
 simp only [setL,List.set]
 refine qV (qS (qW [1,5] (e':=[(1,_),(5,_)]) J ?_))
 refine qQ (qL (qL (qC (.q 0 (.done)) Kr ?_)))
 refine qR J J J J (qS (qQ (kV (cL (fun _ h=>sY (sz:=1) (enc:=encZ) h) ?_))))
 refine cL (fun _ h=>sY (sz:=2) (enc:=enc2) h) ?_
 refine sS (α:=Nat × Option Addr × Nat × Option Addr × Nat) (fun (x_:Nat × Option Addr × Nat × Option Addr × Nat)=>match x_ with | (i,ai,ci,bi,di)=>i≤n∧True) (fun (x_:Nat × Option Addr × Nat × Option Addr × Nat)=>match x_ with | (i,ai,ci,bi,di)=>[(6,.int .i64 ((i:Nat):Int))]) (fun (x_:Nat × Option Addr × Nat × Option Addr × Nat)=>match x_ with | (i,ai,ci,bi,di)=>[cells b16 0 [.int .i64 th,.int .i64 va,.int .i64 vo,.int .i64 lk,.slice ai i ci,.slice none 0 0,.slice none 0 0,.slice bi i di,.int .i64 0],own 1 encZ ai ci (pl.take i),own 2 enc2 bi di (List.replicate i ((0:Int),(0:Int)))]) (fun (x_:Nat × Option Addr × Nat × Option Addr × Nat)=>match x_ with | (i,ai,ci,bi,di)=>n - i) [1,5] (er:=[(1,_),(5,_)]) J (0,none,0,none,0) ?_ (by exact ⟨rfl,trivial⟩) (by (try dsimp only);(try simp only [Ad,Zd]);(repeat ((with_reducible apply Z2);focus (first | (with_reducible (repeat (first | exact Z0 | apply Z1));done) | (repeat (first | exact Z0 | apply Z1)))));exact Z3) ?_
 · exact ⟨Nat.zero_le _,trivial⟩
 rintro ⟨i,ai,ci,bi,di⟩ ⟨hle_i,hz1⟩
 try simp only [Ca,Na]
 refine qL (qL (qC (.q 0 (.q 1 (.q 2 (.q 3 (.q 4 (.done)))))) Kr ?_))
 refine qK J J J J (qG (k:=4) J J J J υ'24 J ζ'22 J ?_)
 refine qP (j:=4) J J J J α'22 Tk Az (by rfl) ?_
 refine sR J J J J υ'22 ?_
 refine qD J J J J J (sK _ _ _ _) ?_
 refine qS (qW [1,5,6,25] (e':=[(1,_),(5,_),(6,_),(25,_)]) J ?_)
 refine qQ ?_
 refine qF J (fun hlt1=>?_) (fun hlt1=>?_)
 ·
  refine qH (qQ (qL (kV (qL (kM J (.q 0 (.q 1 (.q 2 (.q 3 (.q 4 (.q 5 (.q 6 (.q 7 (.q 8 (.q 9 (.q 10 ((.l 11 [5] ((.l 12 [] (.q 13 (.q 14 (.q 15 ((.l 16 [] (.done))))))))))))))))))))) Kr ?_)))))
  refine qK J J J J (qK J J J J (qZ J J J J (qG (k:=0) J J J J υ'166 J ζ'24 J ?_)))
  refine qG (k:=4) J J J J υ'24 J ζ'22 J ?_
  refine qP (j:=4) J J J J α'22 Tk Az (by rfl) ?_
  refine qG (k:=4) J J J J υ'24 J ζ'22 J ?_
  refine qP (j:=4) J J J J α'22 Tk Az (by rfl) ?_
  refine qK J J J J ?_
  obtain ⟨p,hp⟩:=cX (l:=pl) (i:=i) (by first | omega | (simp;done) | (simp;omega))
  refine q_idxR (sz:=0) (k:=i) J J J J J υ'22 ζ'3 (hr) hp encZ_len (by first | rfl | omega) Om ?_
  intro ib37 io37 _ hd37
  refine q_load J J J J α'3 Tk (hd37 0 (.int .i64 p) J) ?_
  refine kJ J J J J (cW (us:=[_]) υ'22 ζ'3 J ω'3 J J J) ?_
  intro b39
  refine qM (q:=4) J J J α'22 Tk Az (by rfl) ?_
  refine qV (cN (sz:=1) (enc:=encZ) (xs:=(pl.take i)) J J J J J υ'22 τ'3 J J J (by decide) Tk Tk (by first | rfl | omega | (simp;done) | (simp;omega)) (ys:=[p]) (cJ cB) (by rfl) (by first | rfl | omega) (encZ_len) (encZ_one) Om (by show _*8≤_;omega) ?_)
  intro ao40 cp40
  refine qV (qZ J J J J (qG (k:=0) J J J J υ'166 J ζ'24 J ?_))
  refine qG (k:=4) J J J J υ'24 J ζ'22 J ?_
  refine kR (j:=4) J J J J ζ'22 (us:=[_]) J J J Tk Az (by first | decide | (simp;done) | omega) ?_
  simp only [setL,List.set]
  refine qV (qS (qW [1,5,6] (e':=[(1,_),(5,_),(6,_)]) J ?_))
  refine qQ (qC (.q 0 (.q 1 (.q 2 (.q 3 (.q 4 (.q 5 ((.l 6 [] ((.l 7 [] (.q 8 (.q 9 ((.l 10 [] (.done))))))))))))))) Kr ?_)
  refine qK J J J J (qK J J J J (qZ J J J J (qG (k:=7) J J J J υ'166 J ζ'136 J ?_)))
  refine qP (j:=7) J J J J α'136 Tk Az (by rfl) ?_
  refine kB J J J J (vs:=[_,_]) (kQ υ'149 ω'149 (ps:=[(0,1),(1,1)]) ⟨rfl,ζ'3,rfl,ζ'3,trivial⟩ rfl) ?_
  refine kJ J J J J (cW (us:=[_,_]) υ'136 ζ'149 J ω'149 J J J) ?_
  intro b50
  refine qV (cN (sz:=2) (enc:=enc2) (xs:=(List.replicate i ((0:Int),(0:Int)))) J J J J J υ'136 τ'149 J J J (by decide) Tk Tk (by first | rfl | omega | (simp;done) | (simp;omega)) (ys:=[(0,0)]) (cJ cB) (by rfl) (by first | rfl | omega) (enc2_len) (enc2_one) Om (by show _*16≤_;omega) ?_)
  intro ao51 cp51
  refine qV (qZ J J J J (qG (k:=7) J J J J υ'166 J ζ'136 J ?_))
  refine kR (j:=7) J J J J ζ'136 (us:=[_]) J J J Tk Az (by first | decide | (simp;done) | omega) ?_
  simp only [setL,List.set]
  refine qV (qS (qW [1,5,6] (e':=[(1,_),(5,_),(6,_)]) J ?_))
  refine kG (qQ (qC (.q 0 (.q 1 (.q 2 (.done)))) Kr ?_))
  refine qK J J J J (qD J J J J J (cF _ (by exact kY Om Om)) ?_)
  refine qR J J J J (qS (qQ ?_))
  rw [← take_next hp,← List.replicate_succ']
  refine kZ (x:=(i,ai,ci,bi,di)) ((i+1,ao40,cp40,ao51,cp51)) ?_ ?_ ?_ ?_
  · try dsimp only
    exact ⟨by omega,trivial⟩
  · show n - (i+1) < n - i;omega
  · exact ⟨rfl,rfl,rfl,trivial⟩
  · (try simp only [Ca,Na]);exact Tf
 refine cS (qY (qY (kK (qQ (qL (qL (qC (.q 0 (.done)) Kr ?_)))))))
 refine qR J J J J (qS (qQ (kV (cL (fun _ h=>sY (sz:=3) (enc:=enc3) h) ?_))))
 refine sS (α:=Nat × Option Addr × Nat) (fun (x_:Nat × Option Addr × Nat)=>match x_ with | (j,aj,cj)=>j≤th.toNat∧True) (fun (x_:Nat × Option Addr × Nat)=>match x_ with | (j,aj,cj)=>[(7,.int .i64 ((j:Nat):Int))]) (fun (x_:Nat × Option Addr × Nat)=>match x_ with | (j,aj,cj)=>[cells b16 0 [.int .i64 th,.int .i64 va,.int .i64 vo,.int .i64 lk,.slice ai i ci,.slice aj j cj,.slice none 0 0,.slice bi i di,.int .i64 0],own 1 encZ ai ci (pl.take i),own 3 enc3 aj cj (List.replicate j ((0:Int),(0:Int),(0:Int))),own 2 enc2 bi di (List.replicate i ((0:Int),(0:Int)))]) (fun (x_:Nat × Option Addr × Nat)=>match x_ with | (j,aj,cj)=>th.toNat - j) [1,5] (er:=[(1,_),(5,_)]) J (0,none,0) ?_ (by exact ⟨rfl,trivial⟩) (by (try dsimp only);(try simp only [Ad,Zd]);(repeat ((with_reducible apply Z2);focus (first | (with_reducible (repeat (first | exact Z0 | apply Z1));done) | (repeat (first | exact Z0 | apply Z1)))));exact Z3) ?_
 · exact ⟨Nat.zero_le _,trivial⟩
 rintro ⟨j,aj,cj⟩ ⟨hle_j,hz2⟩
 try simp only [Ca,Na]
 refine qL (qL (qC (.q 0 (.q 1 (.q 2 (.q 3 (.done))))) Kr ?_))
 refine qK J J J J (qG (k:=0) J J J J υ'24 J ζ'3 J ?_)
 refine qP (j:=0) J J J J α'3 Tk Az (by rfl) ?_
 refine qD J J J J J (sK _ _ _ _) ?_
 refine qS (qQ ?_)
 refine qF J (fun hlt2=>?_) (fun hlt2=>?_)
 ·
  refine qH (qQ (qL (kV (qC (.q 0 (.q 1 (.q 2 (.q 3 (.q 4 (.q 5 ((.l 6 [] ((.l 7 [] (.q 8 (.q 9 ((.l 10 [] (.done))))))))))))))) Kr ?_))))
  refine qK J J J J (qK J J J J (qZ J J J J (qG (k:=5) J J J J υ'166 J ζ'164 J ?_)))
  refine qP (j:=5) J J J J α'164 Tk Az (by rfl) ?_
  refine kB J J J J (vs:=[_,_,_]) (kQ υ'133 ω'133 (ps:=[(0,1),(1,1),(2,1)]) ⟨rfl,ζ'131,rfl,ζ'3,rfl,ζ'3,trivial⟩ rfl) ?_
  refine kJ J J J J (cW (us:=[_,_,_]) υ'164 ζ'133 J ω'133 J J J) ?_
  intro b66
  refine qV (cN (sz:=3) (enc:=enc3) (xs:=(List.replicate j ((0:Int),(0:Int),(0:Int)))) J J J J J υ'164 Tryz.typeInfo133 J J J (by decide) Tk Tk (by first | rfl | omega | (simp;done) | (simp;omega)) (ys:=[(0,0,0)]) (cJ cB) (by rfl) (by first | rfl | omega) (enc3_len) (enc3_one) Om (by show _*24≤_;omega) ?_)
  intro ao67 cp67
  refine qV (qZ J J J J (qG (k:=5) J J J J υ'166 J ζ'164 J ?_))
  refine kR (j:=5) J J J J ζ'164 (us:=[_]) J J J Tk Az (by first | decide | (simp;done) | omega) ?_
  simp only [setL,List.set]
  refine qV (qS (qW [1,5,7] (e':=[(1,_),(5,_),(7,_)]) J ?_))
  refine kG (qQ (qC (.q 0 (.q 1 (.q 2 (.done)))) Kr ?_))
  refine qK J J J J (qD J J J J J (cF _ (by exact kY Om Om)) ?_)
  refine qR J J J J (qS (qQ ?_))
  rw [← List.replicate_succ']
  refine kZ (x:=(j,aj,cj)) ((j+1,ao67,cp67)) ?_ ?_ ?_ ?_
  · try dsimp only
    exact ⟨by omega,trivial⟩
  · show th.toNat - (j+1) < th.toNat - j;omega
  · exact ⟨rfl,rfl,rfl,trivial⟩
  · (try simp only [Ca,Na]);exact Tf
 refine cS (qY (qY (kK (qQ (qL ?_)))))
 have hj0:j=th.toNat:=by omega
 obtain ⟨z0,hz0⟩:=cX (l:=List.replicate j ((0:Int),(0:Int),(0:Int))) (i:=0) (by simp;omega)
 obtain rfl:z0=(0,0,0):=(List.mem_replicate.1 (List.mem_of_getElem? hz0)).2
 refine qC (.q 0 (.q 1 (.q 2 (.q 3 (.q 4 (.q 5 ((.l 6 [] (.done))))))))) Kr ?_
 refine qK J J J J (qZ J J J J (qG (k:=5) J J J J υ'166 J ζ'164 J ?_))
 refine qP (j:=5) J J J J α'164 Tk Az (by rfl) ?_
 refine cK (sz:=2) (k:=0) (enc:=enc3) (xs:=(List.replicate j ((0:Int),(0:Int),(0:Int)))) J J J J J υ'164 ζ'133 hz0 (by first | rfl | omega) Om Tk ?_
 intro ib74 io74 ha74 hl74 hc74
 refine qG (k:=0) J J J J υ'133 J ζ'131 J ?_
 refine sC (j:=0) (k:=0) (q:=(1,0,0)) (enc:=enc3) (off:=io74) J J J J ζ'131 (us:=[_]) J J J ha74 enc3_len hz0 Tk (by first | rfl | exact (Ad _).symm | omega) (by first | decide | exact Nat.le_of_ble_eq_true J) (by rfl) ?_
 refine qV (qS (qW [1,5] (e':=[(1,_),(5,_)]) J ?_))
 refine qQ (qL (qL (qC (.q 0 (.done)) Kr ?_)))
 refine qR J J J J (qS (qQ (kV (cL (fun _ h=>sY (sz:=1) (enc:=encZ) h) ?_))))
 refine sS (α:=Nat × Option Addr × Nat) (fun (x_:Nat × Option Addr × Nat)=>match x_ with | (m,am,cm)=>m≤lk.toNat∧True) (fun (x_:Nat × Option Addr × Nat)=>match x_ with | (m,am,cm)=>[(8,.int .i64 ((m:Nat):Int))]) (fun (x_:Nat × Option Addr × Nat)=>match x_ with | (m,am,cm)=>[cells b16 0 [.int .i64 th,.int .i64 va,.int .i64 vo,.int .i64 lk,.slice ai i ci,.slice aj j cj,.slice am m cm,.slice bi i di,.int .i64 0],own 1 encZ ai ci (pl.take i),own 3 enc3 aj cj ((List.replicate j ((0:Int),(0:Int),(0:Int))).set 0 (1,0,0)),own 1 encZ am cm (List.replicate m (-1:Int)),own 2 enc2 bi di (List.replicate i ((0:Int),(0:Int)))]) (fun (x_:Nat × Option Addr × Nat)=>match x_ with | (m,am,cm)=>lk.toNat - m) [1,5] (er:=[(1,_),(5,_)]) J (0,none,0) ?_ (by exact ⟨rfl,trivial⟩) (by (try dsimp only);(try simp only [Ad,Zd]);(repeat ((with_reducible apply Z2);focus (first | (with_reducible (repeat (first | exact Z0 | apply Z1));done) | (repeat (first | exact Z0 | apply Z1)))));exact Z3) ?_
 · exact ⟨Nat.zero_le _,trivial⟩
 rintro ⟨m,am,cm⟩ ⟨hle_m,hz3⟩
 try simp only [Ca,Na]
 refine qL (qL (qC (.q 0 (.q 1 (.q 2 (.q 3 (.done))))) Kr ?_))
 refine qK J J J J (qG (k:=3) J J J J υ'24 J ζ'3 J ?_)
 refine qP (j:=3) J J J J α'3 Tk Az (by rfl) ?_
 refine qD J J J J J (sK _ _ _ _) ?_
 refine qS (qQ ?_)
 refine qF J (fun hlt3=>?_) (fun hlt3=>?_)
 ·
  refine qH (qQ (qL (kV (qC (.q 0 (.q 1 (.q 2 (.q 3 (.q 4 ((.l 5 [] ((.l 6 [] (.q 7 (.q 8 ((.l 9 [] (.done)))))))))))))) Kr ?_))))
  refine qK J J J J (qK J J J J (qZ J J J J (qG (k:=6) J J J J υ'166 J ζ'22 J ?_)))
  refine qP (j:=6) J J J J α'22 Tk Az (by rfl) ?_
  refine kJ J J J J (cW (us:=[_]) υ'22 ζ'3 J ω'3 J J J) ?_
  intro b87
  refine qV (cN (sz:=1) (enc:=encZ) (xs:=(List.replicate m (-1:Int))) J J J J J υ'22 τ'3 J J J (by decide) Tk Tk (by first | rfl | omega | (simp;done) | (simp;omega)) (ys:=[(-1)]) (cJ cB) (by rfl) (by first | rfl | omega) (encZ_len) (encZ_one) Om (by show _*8≤_;omega) ?_)
  intro ao88 cp88
  refine qV (qZ J J J J (qG (k:=6) J J J J υ'166 J ζ'22 J ?_))
  refine kR (j:=6) J J J J ζ'22 (us:=[_]) J J J Tk Az (by first | decide | (simp;done) | omega) ?_
  simp only [setL,List.set]
  refine qV (qS (qW [1,5,8] (e':=[(1,_),(5,_),(8,_)]) J ?_))
  refine kG (qQ (qC (.q 0 (.q 1 (.q 2 (.done)))) Kr ?_))
  refine qK J J J J (qD J J J J J (cF _ (by exact kY Om Om)) ?_)
  refine qR J J J J (qS (qQ ?_))
  rw [← List.replicate_succ']
  refine kZ (x:=(m,am,cm)) ((m+1,ao88,cp88)) ?_ ?_ ?_ ?_
  · try dsimp only
    exact ⟨by omega,trivial⟩
  · show lk.toNat - (m+1) < lk.toNat - m;omega
  · exact ⟨rfl,rfl,rfl,trivial⟩
  · (try simp only [Ca,Na]);exact Tf
 refine cS (qY (qY (kK (qQ (qL (qC (.q 0 (.q 1 (.q 2 (.done)))) Kr ?_))))))
 refine qK J J J J (qR J J J J (qR J J J J (qS (qW [2,3] (e':=[(2,_),(3,_)]) J ?_))))
 refine qQ (qJ ?_)
 obtain rfl:i=n:=by omega
 obtain rfl:j=th.toNat:=hj0
 obtain rfl:m=lk.toNat:=by omega
 subst hn
 rw [List.take_length]
 refine rk_fold (b:=b16) (newF th va vo lk pl) (pa:=ai) (pc:=ci) (ta:=aj) (tc:=cj) (oa:=am) (oc:=cm) (ba:=bi) (bc:=di) Ts (by rfl) (by simp [newF]) (by simp [newF]) (by simp [newF]) ?_
 refine ret2 J J J ((b16,ai,ci)) (by first | rfl | (first | rfl | (congr 1;done) | (congr 1 <;> first | rfl | omega | (simp;done) | (simp;omega)))) (by trivial) ?_
 exact Tf
theorem rnewbad_spec (th va vo lk:Int) (pl:List Int) (ao:Option Addr) (n c:Nat) (A:HProp) (hr:RdS A ao (pl.flatMap encZ)) (hn:pl.length=n) (hb:n≤4000000) (hok:¬ OkS th va vo lk pl):Spec Tryz.prog 31 [.agg #[.int .i64 th,.int .i64 va,.int .i64 vo,.int .i64 lk,.slice ao n c]] [A] (fun (_:Unit)=>.tuple #[.pointer none,.int .i64 5]) (fun _=>True) (fun _=>[A]):=by
 refine kS (n:=92) Tryz.func31 J J J ?_
 intro Γ w0
 simp only [argE,Ca,Na,Zd,Nat.reduceAdd]
 refine qL (qC ((.l 0 [] (.q 1 (.q 2 (.done))))) Kr ?_)
 refine sG J J J J (us:=[_,_,_,_,_]) J ?_
 intro b1
 refine qV (qR J J J J (qR J J J J (qS (qQ (qL (qC (.q 0 ((.l 1 [] (.q 2 (.done))))) Kr ?_))))))
 refine kC J J J J α'24 ζ'24 Tk 0 (us:=[_,_,_,_,_]) Az J J ?_
 have sp_1:=rshape_spec th va vo lk pl ao n c A (hr) Ln Om
 refine qB J J J J J J Tryz.call74 (sp_1) Ts ?_
 rintro ⟨⟩ -
 try simp only [Ca,Na]
 refine qV (kF 10 J (v':=.int .i64 5) (by rw [if_neg hok]) ?_)
 refine qR J J J J (qS (qW [1,4] (e':=[(1,_),(4,_)]) J ?_))
 refine qQ (qL (qL (qC (.q 0 (.q 1 (.done))) Kr ?_)))
 refine qK J J J J (qD J J J J J (b_neq _ _ _ _) ?_)
 refine kF 12 J (v':=.bool true) (by first | rfl | simp) ?_
 refine qS (qQ (cC J ?_))
 refine qL (qC (.q 0 (.q 1 (.q 2 (.done)))) Kr ?_)
 refine qK J J J J (qR J J J J (qR J J J J (qS (qW [2,3] (e':=[(2,_),(3,_)]) J ?_))))
 refine qQ (qJ (qN (ret2 J J J (()) (by first | rfl | (first | rfl | (congr 1;done) | (congr 1 <;> first | rfl | omega | (simp;done) | (simp;omega)))) (by trivial) ?_)))
 exact Tf
end Go.Ab.Fe
set_option linter.unusedVariables false
set_option linter.unusedSimpArgs false
set_option maxRecDepth 100000
namespace Go.Ab.Rv
open Go Go.Proofs Go.Ab Go.Ab.Fe Go.Ab.Vc Go.Ab.Dj
theorem jn_comm {l m:List Int} (hl:CV l) (hm:CV m):jn l m=jn m l:=Tr_ext (jn_cv hl hm).tr (jn_cv hm hl).tr fun i=>by rw [jn_g hl hm,jn_g hm hl];omega
/-- A part of a map as a list. -/
def tabF (n:Nat) (T:Int→Option (List Int)):List (Option (List Int)):=(List.range n).map fun (i:Nat)=>T (i:Int)
theorem tab_len (n:Nat) (T:Int→Option (List Int)):(tabF n T).length=n:=by simp [tabF]
theorem tab_get {n i:Nat} {T:Int→Option (List Int)} (h:i < n):(tabF n T)[i]?=some (T (i:Int)):=by simp [tabF,h]
theorem tab_set {n i:Nat} {T:Int→Option (List Int)} {v:Option (List Int)}:(tabF n T).set i v=tabF n (upd T (i:Int) v):=by
  apply List.ext_getElem?
  intro q
  rcases Nat.lt_or_ge q n with h | h
  · rw [tab_get h]
    by_cases e:q=i
    · subst e;rw [List.getElem?_set_self (by rw [tab_len];exact h),sL]
    · rw [List.getElem?_set_ne (Ne.symm e),tab_get h,sD (fun h2=>e Om)]
  · rw [List.getElem?_eq_none (by rw [List.length_set,tab_len];exact h),List.getElem?_eq_none (by rw [tab_len];exact h)]
abbrev RK:=Int × Int × List Int
structure RelK (c:CS) (rd:Int × Int→Option (List Int × Int)) (R:List RK):Prop where
  Rl:(R.length:Int)≤c.n
  Rd:(R.map fun q=>(q.1,q.2.1)).Nodup
  Rk:∀ q∈R,CV q.2.2∧(0≤q.1∧q.2.1≤(opF c q.1).1)∧∀ p,rd (q.1,q.2.1)=some p→q.2.2=p.1
  Re:∀ o n p,rd (o,n)=some p→∃ h,(o,n,h)∈R
  Rc:∀ q∈R,q.2.1=(opF c q.1).1→(rd (q.1,q.2.1)).isSome=true
theorem relK_nil {c:CS} (h:0≤c.n):RelK c noF []:=⟨h,.nil,fun q hq=>(by cases hq),fun o n p h=>(by cases h),fun q hq=>(by cases hq)⟩
theorem nx_n {x:CS} {k t o:Int} (h:canF x k t o):(nxF x k t o).n=x.n+1:=by
  obtain ⟨n5,n6,n7,n9,n10,n11,nn⟩:=nxF_k h
  by_cases k5:k=5
  · rw [n5 k5]
  by_cases k6:k=6
  · rw [n6 k6]
  by_cases k7:k=7
  · rw [n7 k7]
  by_cases k9:k=9
  · rw [n9 k9]
  by_cases k10:k=10
  · rw [n10 k10]
  by_cases k11:k=11
  · rw [n11 k11]
  rw [nn k5 k6 k7 k9 k10 k11]
theorem op_keep {x:CS} (hx:CInv x) {k t o:Int} (hc:canF x k t o) (k9:k≠9) {b:Int} (hb:0≤b):opF (nxF x k t o) b=opF x b:=by
  rw [opF_next hx hc hb,if_neg (fun q=>k9 q.1)]
theorem relK_keep {c:CS} {rd:Int × Int→Option (List Int × Int)} {R:List RK} (h:RelK c rd R) (hx:CInv c) {k t o:Int} (hc:canF c k t o) (k9:k≠9):RelK (nxF c k t o) rd R :=
  ⟨by have:=h.Rl;rw [nx_n hc];omega,h.Rd,fun q hq=>by
    obtain ⟨a,⟨b0,b⟩,d⟩:=h.Rk q hq
    exact ⟨a,⟨b0,by rw [op_keep hx hc k9 b0];exact b⟩,d⟩,h.Re,fun q hq e=>h.Rc q hq (by rw [op_keep hx hc k9 (h.Rk q hq).2.1.1] at e;exact e)⟩
theorem relK_dep {c:CS} {rd:Int × Int→Option (List Int × Int)} {R:List RK} (h:RelK c rd R) {o r0:Int} {p:List Int × Int} (hp:rd (o,r0)=some p) (hlt:r0 < (opF c o).1) (q0:Option (List Int × Int)) (hq0:∀ s,q0=some s→s.1=p.1):RelK c (upd rd (o,r0) q0) R :=
  ⟨h.Rl,h.Rd,fun q hq=>by
    obtain ⟨a,b,d⟩:=h.Rk q hq
    refine ⟨a,b,fun s hs=>?_⟩
    rcases upd_some hs with ⟨e,hs⟩ | ⟨-,hs⟩
    · rw [hq0 s hs];exact d p (by rw [e];exact hp)
    · exact d s hs,fun o2 n s hs=>by
    rcases upd_some hs with ⟨e,-⟩ | ⟨-,hs⟩
    · simp only [Prod.mk.injEq] at e
      rw [e.1,e.2];exact h.Re o r0 p hp
    · exact h.Re o2 n s hs,fun q hq e=>by
    have hne:(q.1,q.2.1)≠(o,r0):=fun e2=>by
      simp only [Prod.mk.injEq] at e2
      rw [e2.1,e2.2] at e;omega
    rw [sD hne];exact h.Rc q hq e⟩
theorem relK_arr {c:CS} (hx:CInv c) {rd:Int × Int→Option (List Int × Int)} {R R':List RK} (h:RelK c rd R) {k t o:Int} (hk:k=9) (hc:canF c k t o) {l:List Int} {z:Int} (hl:(R'.length:Int)≤c.n+1) (hd:(R'.map fun q=>(q.1,q.2.1)).Nodup)
    (h1:∀ q∈R',(q∈R∧(q.1,q.2.1)≠(o,(opF c o).1))∨(q.1=o∧q.2.1=(opF c o).1∧CV q.2.2∧q.2.2=l)) (h2:∀ q∈R,(q.1,q.2.1)≠(o,(opF c o).1)→q∈R') (h3:∃ g,(o,(opF c o).1,g)∈R') :
    RelK (nxF c k t o) (upd rd (o,(opF c o).1) (some (l,z))) R':=by
  subst hk
  obtain ⟨o5,o7,o9,o10,o11⟩:=can_obj hx hc
  obtain ⟨p0,p1,p2,p3⟩:=o9 rfl
  have hop:∀ b:Int,0≤b→(opF c b).1≤(opF (nxF c 9 t o) b).1:=fun b hb=>by
    rw [opF_next hx hc hb]
    split
    · rename_i e
      rw [e.2];unfold arrF;split
      · show _≤_+1;omega
      · exact Int.le_refl _
    · exact Int.le_refl _
  refine ⟨by rw [nx_n hc];exact hl,hd,fun q hq=>?_,fun o2 n s hs=>?_,fun q hq e=>?_⟩
  · rcases h1 q hq with ⟨hm,hne⟩ | ⟨e1,e2,a,b⟩
    · obtain ⟨a,⟨b0,b⟩,d⟩:=h.Rk q hm
      exact ⟨a,⟨b0,Int.le_trans b (hop _ b0)⟩,fun s hs=>d s (by rwa [sD hne] at hs)⟩
    · refine ⟨a,⟨by omega,by rw [e2,e1];exact hop _ p0⟩,fun s hs=>?_⟩
      rw [e1,e2,sL] at hs;cases hs;exact b
  · rcases upd_some hs with ⟨e,-⟩ | ⟨hne,hs⟩
    · simp only [Prod.mk.injEq] at e
      rw [e.1,e.2];exact h3
    · obtain ⟨g,hg⟩:=h.Re o2 n s hs
      exact ⟨g,h2 _ hg hne⟩
  · rcases h1 q hq with ⟨hm,hne⟩ | ⟨e1,e2,a,b⟩
    · rw [sD hne]
      obtain ⟨-,⟨b0,b⟩,-⟩:=h.Rk q hm
      refine h.Rc q hm ?_
      rw [opF_next hx hc b0] at e
      split at e
      · rename_i e3
        unfold arrF at e
        rw [e3.2] at b
        split at e
        · simp only at e;omega
        · rw [e,e3.2]
      · exact e
    · rw [e1,e2,sL];rfl
theorem key_inj {R:List RK} (hd:(R.map fun q=>(q.1,q.2.1)).Nodup) {i j:Nat} {a b:RK} (hi:R[i]?=some a) (hj:R[j]?=some b) (e:(a.1,a.2.1)=(b.1,b.2.1)):i=j:=by
  have h1:(R.map fun q=>(q.1,q.2.1))[i]?=some (a.1,a.2.1):=by rw [List.getElem?_map,hi];rfl
  have h2:(R.map fun q=>(q.1,q.2.1))[j]?=some (b.1,b.2.1):=by rw [List.getElem?_map,hj];rfl
  exact (List.getElem?_inj (List.getElem?_eq_some_iff.1 h1).1 hd).1 (by rw [h1,h2,e])
theorem set_sameL {α:Type} {l:List α} {i:Nat} {a:α} (h:l[i]?=some a):l.set i a=l:=by
  apply List.ext_getElem?
  intro q
  by_cases e:q=i
  · subst e;rw [List.getElem?_set_self (List.getElem?_eq_some_iff.1 h).1,h]
  · rw [List.getElem?_set_ne (Ne.symm e)]
theorem arr_yes {c:CS} (hx:CInv c) {rd:Int × Int→Option (List Int × Int)} {R:List RK} (h:RelK c rd R) {k t o:Int} (hk:k=9) (hc:canF c k t o) {i:Nat} {q:RK} (hq:R[i]?=some q) (e1:q.1=o) (e2:q.2.1=(opF c o).1) {l:List Int} {z:Int} (ho:CV l) :
    RelK (nxF c k t o) (upd rd (o,(opF c o).1) (some (l,z))) (R.set i (q.1,q.2.1,l)):=by
  have hi:=(List.getElem?_eq_some_iff.1 hq).1
  have hm:(R.set i (q.1,q.2.1,l)).map (fun q=>(q.1,q.2.1))=R.map fun q=>(q.1,q.2.1):=by
    rw [List.map_set]
    refine set_sameL ?_
    rw [List.getElem?_map,hq];rfl
  refine relK_arr hx h hk hc (by rw [List.length_set];have:=h.Rl;omega) (by rw [hm];exact h.Rd) (fun a ha=>?_) (fun a ha hne=>?_) ⟨l,?_⟩
  · obtain ⟨j,hj⟩:=List.getElem?_of_mem ha
    by_cases e:j=i
    · subst e
      rw [List.getElem?_set_self hi] at hj
      cases hj;exact .inr ⟨e1,e2,ho,rfl⟩
    · rw [List.getElem?_set_ne (Ne.symm e)] at hj
      exact .inl ⟨List.mem_of_getElem? hj,fun e3=>e (key_inj h.Rd hj hq (by rw [e3,e1,e2]))⟩
  · obtain ⟨j,hj⟩:=List.getElem?_of_mem ha
    have e:j≠i:=fun e=>by
      subst e;rw [hq] at hj;cases hj;exact hne (by rw [e1,e2])
    exact List.mem_of_getElem? (i:=j) (by rw [List.getElem?_set_ne (Ne.symm e)];exact hj)
  · exact List.mem_of_getElem? (i:=i) (by rw [List.getElem?_set_self hi,e1,e2])
theorem arr_no {c:CS} (hx:CInv c) {rd:Int × Int→Option (List Int × Int)} {R:List RK} (h:RelK c rd R) {k t o:Int} (hk:k=9) (hc:canF c k t o) (hno:¬ ∃ (j:Nat) (q:RK),R[j]?=some q∧q.1=o∧q.2.1=(opF c o).1) {l:List Int} {z:Int} (ho:CV l) :
    RelK (nxF c k t o) (upd rd (o,(opF c o).1) (some (l,z))) (R++[(o,(opF c o).1,l)]):=by
  have hn:∀ q∈R,(q.1,q.2.1)≠(o,(opF c o).1):=fun q hq e=>by
    obtain ⟨j,hj⟩:=List.getElem?_of_mem hq
    simp only [Prod.mk.injEq] at e
    exact hno ⟨j,q,hj,e.1,e.2⟩
  refine relK_arr hx h hk hc (by have:=h.Rl;simp;omega) ?_ (fun a ha=>?_) (fun a ha hne=>List.mem_append_left _ ha) ⟨l,by simp⟩
  · rw [List.map_append,List.nodup_append]
    refine ⟨h.Rd,by simp,fun a ha b hb=>?_⟩
    obtain ⟨q,hq,rfl⟩:=List.mem_map.1 ha
    simp only [List.map_cons,List.map_nil,List.mem_singleton] at hb
    rw [hb];exact hn q hq
  · rcases List.mem_append.1 ha with ha | ha
    · exact .inl ⟨ha,hn a ha⟩
    · simp only [List.mem_singleton] at ha
      subst ha;exact .inr ⟨rfl,rfl,ho,rfl⟩
/-! ### In memory -/
def encA (a:Option Addr):List Value:=[.pointer a]
theorem encA_len:∀ x,(encA x).length=1:=fun _=>rfl
theorem encA_one:∀ x,(encA x).all Value.oneCell'=true:=fun _=>rfl
/-- What a round keeps: its barrier, its number, where its vector lies. -/
abbrev KP:=Int × Int × Option Addr
def encK (x:KP):List Value:=[.int .i64 x.1,.int .i64 x.2.1,.pointer x.2.2]
theorem encK_len:∀ x,(encK x).length=3:=fun _=>rfl
theorem encK_one:∀ x,(encK x).all Value.oneCell'=true:=fun _=>rfl
def krA (v:KP) (t:RK):HProp:=fun h=>v.1=t.1∧v.2.1=t.2.1∧ckA v.2.2 t.2.2 h
def rvR (pa:Option Addr) (pc b:Nat) (x:VS):HProp:=fun h=>∃ cb Ta Tc La Lc Oa Oc Ra Rc VT VL VO VR YR,(VT.length=x.ck.th.toNat∧VL.length=x.ck.lk.toNat∧VO.length=x.ck.vo.toNat∧VR.length=YR.length)∧RelK x.ck x.rd YR ∧
  Sat [cells b 0 [.pointer (some ⟨cb,0,none⟩),.slice Ta VT.length Tc,.slice La VL.length Lc,.slice Oa VO.length Oc,.slice Ra VR.length Rc],rk pa pc cb x.ck,own 1 encA Ta Tc VT,restL optR VT (tabF x.ck.th.toNat x.th) [],own 1 encA La Lc VL,restL optR VL (tabF x.ck.lk.toNat x.lk) [],
    own 1 encA Oa Oc VO,restL optR VO (tabF x.ck.vo.toNat x.vo) [],own 3 encK Ra Rc VR,restL krA VR YR []] h
section
variable {w0:World} {ds:List Deferred} {n:Nat} {e:Env} {Γ Γ':List HProp} {X:Act→World→Prop}
theorem rv_open {pa:Option Addr} {pc b:Nat} {x:VS} (tk:Take Γ (rvR pa pc b x) Γ') (k:∀ cb Ta Tc La Lc Oa Oc Ra Rc VT VL VO VR YR,VT.length=x.ck.th.toNat→VL.length=x.ck.lk.toNat→VO.length=x.ck.vo.toNat→VR.length=YR.length→RelK x.ck x.rd YR →
    Le (St w0 ds n e (cells b 0 [.pointer (some ⟨cb,0,none⟩),.slice Ta VT.length Tc,.slice La VL.length Lc,.slice Oa VO.length Oc,.slice Ra VR.length Rc]::rk pa pc cb x.ck::own 1 encA Ta Tc VT::restL optR VT (tabF x.ck.th.toNat x.th) []::own 1 encA La Lc VL::restL optR VL (tabF x.ck.lk.toNat x.lk) [] ::
      own 1 encA Oa Oc VO::restL optR VO (tabF x.ck.vo.toNat x.vo) []::own 3 encK Ra Rc VR::restL krA VR YR []::Γ')) X):Le (St w0 ds n e Γ) X:=fun a w s=>by
  obtain ⟨h1,l1,⟨cb,Ta,Tc,La,Lc,Oa,Oc,Ra,Rc,VT,VL,VO,VR,YR,⟨q1,q2,q3,q4⟩,hR,a1⟩,s1⟩:=tk _ s.heap
  exact k cb Ta Tc La Lc Oa Oc Ra Rc VT VL VO VR YR q1 q2 q3 q4 hR a w ⟨s.defers,s.size,s.env,Bun.unfold ⟨h1,l1,a1,s1⟩,s.amb⟩
theorem rv_fold {b:Nat} (x:VS) {pa:Option Addr} {pc cb Tc Lc Oc Rc n1 n2 n3 n4:Nat} {Ta La Oa Ra:Option Addr} {c:CS} {VT VL VO:List (Option Addr)} {VR:List KP} {YR:List RK} {YT YL YO:List (Option (List Int))}
    (tk:Takes Γ [cells b 0 [.pointer (some ⟨cb,0,none⟩),.slice Ta n1 Tc,.slice La n2 Lc,.slice Oa n3 Oc,.slice Ra n4 Rc],rk pa pc cb c,own 1 encA Ta Tc VT,restL optR VT YT [],own 1 encA La Lc VL,restL optR VL YL [],
      own 1 encA Oa Oc VO,restL optR VO YO [],own 3 encK Ra Rc VR,restL krA VR YR []] Γ') (h1:n1=VT.length) (h2:n2=VL.length) (h3:n3=VO.length) (h4:n4=VR.length) (hc:c=x.ck)
    (e1:YT=tabF x.ck.th.toNat x.th) (e2:YL=tabF x.ck.lk.toNat x.lk) (e3:YO=tabF x.ck.vo.toNat x.vo) (q1:VT.length=x.ck.th.toNat) (q2:VL.length=x.ck.lk.toNat) (q3:VO.length=x.ck.vo.toNat) (q4:VR.length=YR.length) (hR:RelK x.ck x.rd YR)
    (k:Le (St w0 ds n e (rvR pa pc b x::Γ')) X):Le (St w0 ds n e Γ) X:=cL (fun h s=>by
  subst h1 h2 h3 h4 hc e1 e2 e3
  obtain ⟨h1,l1,a1,s1⟩:=Bun.fold (tk h s)
  exact ⟨h1,l1,⟨cb,Ta,Tc,La,Lc,Oa,Oc,Ra,Rc,VT,VL,VO,VR,YR,⟨q1,q2,q3,q4⟩,hR,a1⟩,s1⟩) k
theorem s_kr {v:KP} {t:RK} (tk:Take Γ (krA v t) Γ') (k:∀ b,v=(t.1,t.2.1,some ⟨b,0,none⟩)→Le (St w0 ds n e (ckB b t.2.2::Γ')) X):Le (St w0 ds n e Γ) X:=fun a w s=>by
  obtain ⟨h1,l1,⟨a1,a2,b,hb,a3⟩,s1⟩:=tk _ s.heap
  exact k b (by obtain ⟨v1,v2,v3⟩:=v;simp only at a1 a2 hb;rw [a1,a2,hb]) a w ⟨s.defers,s.size,s.env,⟨h1,l1,a3,s1⟩,s.amb⟩
theorem s_krF (b:Nat) (t:RK) (tk:Take Γ (ckB b t.2.2) Γ') (k:Le (St w0 ds n e (krA (t.1,t.2.1,some ⟨b,0,none⟩) t::Γ')) X):Le (St w0 ds n e Γ) X:=cL (fun h s=>by
  obtain ⟨h1,l1,a1,s1⟩:=tk h s
  exact ⟨h1,l1,⟨rfl,rfl,b,rfl,a1⟩,s1⟩) k
theorem optR_some {a:Option Addr} {t:List Int} (tk:Take Γ (optR a (some t)) Γ') (k:∀ b,a=some ⟨b,0,none⟩→Le (St w0 ds n e (ckB b t::Γ')) X):Le (St w0 ds n e Γ) X:=ck_a tk k
theorem optR_someF {b:Nat} {t:List Int} (tk:Take Γ (ckB b t) Γ') (k:Le (St w0 ds n e (optR (some ⟨b,0,none⟩) (some t)::Γ')) X):Le (St w0 ds n e Γ) X:=ck_aF tk k
theorem optR_none {a:Option Addr} (tk:Take Γ (optR a none) Γ') (k:a=none→Le (St w0 ds n e (optR none none::Γ')) X):Le (St w0 ds n e Γ) X:=fun x w s=>by
  obtain ⟨h1,l1,a1,s1⟩:=tk _ s.heap
  have e:a=none:=a1
  subst e
  exact k J x w ⟨s.defers,s.size,s.env,⟨h1,l1,a1,s1⟩,s.amb⟩
end
end Go.Ab.Rv
set_option linter.unusedVariables false
set_option linter.unusedSimpArgs false
set_option maxRecDepth 100000
namespace Go.Ab.Rv
open Go Go.Proofs Go.Ab Go.Ab.Fe Go.Ab.Vc Go.Ab.Dj
theorem lists1_spec (o c:Nat) (t:List Int):Spec Tryz.prog 128 [.slice (some ⟨o,0,none⟩) 1 1] [cells o 0 [.pointer (some ⟨c,0,none⟩)],ckB c t] (fun (r:Option Addr × Nat × Option Addr × Nat × List Int)=>.tuple #[.slice r.1 1 r.2.1,.bool true]) (fun r=>OkV r.2.2.2.2∧tr r.2.2.2.2=t) (fun r=>[cells o 0 [.pointer (some ⟨c,0,none⟩)],ckB c t,own 1 encH r.1 r.2.1 [((r.2.2.1,r.2.2.2.1,r.2.2.2.2):LstA Int)],own 1 encU r.2.2.1 r.2.2.2.1 r.2.2.2.2]):=by
 refine kS (n:=30) Tryz.func128 J J J ?_
 intro Γ w0
 simp only [argE,Ca,Na,Zd,Nat.reduceAdd]
 refine qL (qC (.q 0 (.q 1 (.done))) Kr ?_)
 refine qR J J J J (qR J J J J (qS (qQ (qL (qC (.q 0 (.done)) Kr ?_)))))
 refine qR J J J J (qS (qQ (qL (qL (qC (.q 0 (.done)) Kr ?_)))))
 refine qR J J J J (qS (qQ (kV (c_unroll 1 ?_))))
 refine qL (qL (qC (.q 0 (.q 1 (.q 2 (.q 3 (.done))))) Kr ?_))
 refine qK J J J J (qK J J J J (sR J J J J υ'101 ?_))
 refine qD J J J J J (sK _ _ _ _) ?_
 refine qS (qW [0,4,5,9] (e':=[(0,_),(4,_),(5,_),(9,_)]) J ?_)
 refine qQ ?_
 refine qF J (fun hg=>?_) (fun hg=>by exfalso;omega)
 refine qH (qQ (qL (kV (qL (qL (qC (.q 0 (.q 1 (.q 2 (.q 3 (.q 4 (.done)))))) Kr ?_))))))
 refine qK J J J J (qK J J J J (q_idx (k:=0) J J J J J υ'101 ζ'105 (by first | rfl | omega) Om (by exact ⟨_,_,rfl⟩) ?_))
 intro ib io hx_;cases hx_
 refine qP (j:=0) J J J J α'105 Tk Az (by rfl) ?_
 refine cM J J J J υ'105 ?_
 refine kF 16 J (v':=.bool false) J ?_
 refine qS (qW [0,4,5,16] (e':=[(0,_),(4,_),(5,_),(16,_)]) J ?_)
 refine qQ (kN J ?_)
 refine qH (qQ (ck_open (b:=c) (t:=t) Tk fun ao cap l ho ht=>?_))
 have hll:=ho.1
 refine qC (.q 0 ((.l 1 [] (.q 2 (.q 3 (.q 4 (.q 5 (.q 6 (.q 7 (.q 8 ((.l 9 [] ((.l 10 [] ((.l 11 [] (.q 12 (.done)))))))))))))))))) Kr ?_
 refine qK J J J J (cG J J J J υ'159 ζ'97 ?_)
 intro b18
 refine qV (qK J J J J (qK J J J J (q_idx (k:=0) J J J J J υ'101 ζ'105 (by first | rfl | omega) Om (by exact ⟨_,_,rfl⟩) ?_)))
 intro ib io hx_;cases hx_
 refine qP (j:=0) J J J J α'105 Tk Az (by rfl) ?_
 refine qZ J J J J (qG (k:=0) J J J J υ'168 J ζ'159 J ?_)
 refine qP (j:=0) J J J J α'159 Tk Az (by rfl) ?_
 refine cP (A:=own 1 encU ao cap l) Tk ?_
 refine own_fc fun f_1a f_1b f_1c=>?_
 refine cP (A:=cells b18 0 []) Tk ?_
 refine cL (fun _ h=>own_mk (sz:=1) (enc:=encU) (xs:=[]) (sp:=[]) (cap:=0) (Nat.le_refl _) J h) ?_
 refine cN (sz:=1) (enc:=encU) (xs:=[]) J J J J J υ'159 τ'97 J J J (by decide) Tk Tk (by first | rfl | omega | (simp;done) | (simp;omega)) (ys:=l) (rC encU_len (fun h=>(f_1b h).1) f_1c) (by rfl) (by first | rfl | omega) (encU_len) (encU_one) Om (by show _*8≤_;omega) ?_
 intro ao26 cp26
 try simp only [Na]
 refine kF 26 J (v':=.slice ao26 l.length cp26) (by first | rfl | (congr 1;done) | (congr 1 <;> first | rfl | omega | (simp;done) | (simp;omega))) ?_
 refine qV (kJ J J J J (cW (us:=[_]) υ'221 ζ'159 J Tryz.zeroValue159 J J J) ?_)
 intro b27
 refine qV (cL (fun _ h=>sY (sz:=1) (enc:=(encH:LstA Int→List Value)) h) ?_)
 refine cN (sz:=1) (enc:=encH) (xs:=[]) J J J J J υ'221 Tryz.typeInfo159 J J J (by decide) Tk Tk (by first | rfl | omega | (simp;done) | (simp;omega)) (ys:=[((ao26,cp26,l):LstA Int)]) (cJ cB) (by rfl) (by first | rfl | omega) (sB) (encH_one) Om (by show _*24≤_;omega) ?_
 intro la lc
 try simp only [Na]
 refine qV (qR J J J J (qS (qW [0,4,5] (e':=[(0,_),(4,_),(5,_)]) J ?_)))
 refine kG (qQ (qC (.q 0 (.q 1 (.q 2 (.done)))) Kr ?_))
 refine qK J J J J (qD J J J J J (cF _ (by exact kY Om Om)) ?_)
 refine qR J J J J (qS (qQ (c_round ?_)))
 refine qL (qL (qC (.q 0 (.q 1 (.q 2 (.q 3 (.done))))) Kr ?_))
 refine qK J J J J (qK J J J J (sR J J J J υ'101 ?_))
 refine qD J J J J J (sK _ _ _ _) ?_
 refine qS (qW [0,4,5,9] (e':=[(0,_),(4,_),(5,_),(9,_)]) J ?_)
 refine qQ ?_
 refine qF J (fun hg=>by exfalso;omega) (fun hg=>?_)
 refine cS (qY (qY (kK (qQ (qL (qC (.q 0 (.q 1 (.q 2 (.done)))) Kr ?_))))))
 refine qK J J J J (qR J J J J (qR J J J J (qS (qW [2,3] (e':=[(2,_),(3,_)]) J ?_))))
 refine qQ (qJ (ck_fold (b:=c) (ao:=ao) (cap:=cap) (l:=l) t Ts (by first | rfl | simp) ho ht ?_))
 refine ret2 J J J ((la,lc,ao26,cp26,l)) (by first | rfl | (first | rfl | (congr 1;done) | (congr 1 <;> first | rfl | omega | (simp;done) | (simp;omega)))) (by exact ⟨ho,ht⟩) ?_
 exact Tf
theorem join1_spec (b o c:Nat) (t u:List Int):Spec Tryz.prog 110 [.pointer (some ⟨b,0,none⟩),.slice (some ⟨o,0,none⟩) 1 1] [ckB b t,cells o 0 [.pointer (some ⟨c,0,none⟩)],ckB c u] (fun (_:Unit)=>.int .i64 0) (fun _=>True) (fun _=>[ckB b (jn t u),cells o 0 [.pointer (some ⟨c,0,none⟩)],ckB c u]):=by
 refine kS (n:=56) Tryz.func110 J J J ?_
 intro Γ w0
 simp only [argE,Ca,Na,Zd,Nat.reduceAdd]
 refine qL (qC (.q 0 (.done)) Kr ?_)
 refine qR J J J J (qS (qQ (qL (qC (.q 0 ((.l 1 [] (.q 2 (.q 3 (.q 4 (.q 5 (.q 6 (.done))))))))) Kr ?_))))
 refine qK J J J J ?_
 have sp_1:=lists1_spec o c u
 refine qB J J J J J J Tryz.call128 (sp_1) Ts ?_
 rintro ⟨la,lc,ma,mc,m⟩ ⟨hom,htm⟩
 simp only at hom htm
 have hml:=hom.1
 try simp only [Ca,Na]
 refine qV (qK J J J J (kX J J J J J (kX J J J J J (qR J J J J (qR J J J J (qS (qW [0,5,6] (e':=[(0,_),(5,_),(6,_)]) J ?_)))))))
 refine qQ (qL (qL (qC (.q 0 (.q 1 (.q 2 (.q 3 (.q 4 (.q 5 (.done))))))) Kr ?_)))
 refine qK J J J J (cM J J J J υ'105 ?_)
 refine kF 15 J (v':=.bool false) J ?_
 refine qK J J J J (qK J J J J (rK J J J J ?_))
 refine kF 18 J (v':=.bool false) J ?_
 refine kD J J J J J (qS (qW [0,5,19] (e':=[(0,_),(5,_),(19,_)]) J ?_))
 refine qQ (kN J ?_)
 refine qH (qQ (qL (qL (ck_open (b:=b) (t:=t) Tk fun ao cap l ho ht=>?_))))
 have hll:=ho.1
 refine qC (.q 0 (.done)) Kr ?_
 refine qR J J J J (qS (qQ (kV (c_unroll 1 ?_))))
 refine qL (qL (qC (.q 0 (.q 1 (.q 2 (.q 3 (.done))))) Kr ?_))
 refine qK J J J J (qK J J J J (sR J J J J υ'221 ?_))
 refine qD J J J J J (sK _ _ _ _) ?_
 refine qS (qW [0,5,7,23] (e':=[(0,_),(5,_),(7,_),(23,_)]) J ?_)
 refine qQ ?_
 refine qF J (fun hg=>?_) (fun hg=>by exfalso;omega)
 refine qH (qQ (qL (kV (qL (qC (.q 0 (.done)) Kr ?_)))))
 refine qR J J J J (qS (qQ (kV ?_)))
 refine sS (α:=Nat × List Int × Option Addr × Nat) (fun (x_:Nat × List Int × Option Addr × Nat)=>match x_ with | (i,v,va,vc)=>i≤m.length∧(OkV v)∧(JnI l m v i)) (fun (x_:Nat × List Int × Option Addr × Nat)=>match x_ with | (i,v,va,vc)=>[(8,.int .i64 ((i:Nat):Int))]) (fun (x_:Nat × List Int × Option Addr × Nat)=>match x_ with | (i,v,va,vc)=>[cells b 0 [.slice va v.length vc],own 1 encU va vc v]) (fun (x_:Nat × List Int × Option Addr × Nat)=>match x_ with | (i,v,va,vc)=>m.length - i) [0,5,7] (er:=[(0,_),(5,_),(7,_)]) J (0,l,ao,cap) ?_ (by exact ⟨rfl,trivial⟩) (by (try dsimp only);(try simp only [Ad,Zd]);(repeat ((with_reducible apply Z2);focus (first | (with_reducible (repeat (first | exact Z0 | apply Z1));done) | (repeat (first | exact Z0 | apply Z1)))));exact Z3) ?_
 · exact ⟨Nat.zero_le _,ho,JnI_zero _ _⟩
 rintro ⟨i,v,va,vc⟩ ⟨hle_i,hov,hJ⟩
 try simp only [Ca,Na]
 have hvl:=hov.1
 refine qL (qL (qC (.q 0 (.q 1 (.q 2 (.q 3 (.q 4 (.q 5 (.q 6 (.done)))))))) Kr ?_))
 refine qK J J J J (qK J J J J (qK J J J J (cK (sz:=0) (k:=0) (enc:=encH) (xs:=[((ma,mc,m):LstA Int)]) J J J J J υ'221 ζ'159 (rfl:([((ma,mc,m):LstA Int)])[0]?=some (ma,mc,m)) (by first | rfl | omega) Om Tk ?_)))
 intro ib29 io29 ha29 hl29 hc29
 refine cQ (v:=(.slice ma m.length mc)) (j:=0) (k':=0) (enc:=encH) (off:=io29) J J J J α'159 ha29 sB (rfl:([((ma,mc,m):LstA Int)])[0]?=some (ma,mc,m)) Tk (by first | rfl | exact (Ad _).symm | omega) (by rfl) ?_
 refine sR J J J J υ'159 ?_
 refine qD J J J J J (sK _ _ _ _) ?_
 refine qS (qW [0,5,7,8,32] (e':=[(0,_),(5,_),(7,_),(8,_),(32,_)]) J ?_)
 refine qQ ?_
 refine qF J (fun hlt=>?_) (fun hlt=>?_)
 ·
  refine qH (qQ (qL (kV (qL ?_))))
  obtain ⟨y,hy⟩:=cX (l:=m) (i:=i) Om
  have hyg:m.getD i 0=y:=getD_of hy
  have hyr:=hom.2 y (List.mem_of_getElem? hy)
  refine kM J (.q 0 (.q 1 (.q 2 (.q 3 (.q 4 (.q 5 (.q 6 (.q 7 (.q 8 ((.l 9 [3,6] (.q 10 (.done))))))))))))) Kr ?_
  refine qK J J J J (qK J J J J (cK (sz:=0) (k:=0) (enc:=encH) (xs:=[((ma,mc,m):LstA Int)]) J J J J J υ'221 ζ'159 (rfl:([((ma,mc,m):LstA Int)])[0]?=some (ma,mc,m)) (by first | rfl | omega) Om Tk ?_))
  intro ib37 io37 ha37 hl37 hc37
  refine cQ (v:=(.slice ma m.length mc)) (j:=0) (k':=0) (enc:=encH) (off:=io37) J J J J α'159 ha37 sB (rfl:([((ma,mc,m):LstA Int)])[0]?=some (ma,mc,m)) Tk (by first | rfl | exact (Ad _).symm | omega) (by rfl) ?_
  refine qK J J J J (cK (sz:=0) (k:=i) (enc:=encU) (xs:=m) J J J J J υ'159 ζ'97 hy (by first | rfl | omega) Om Tk ?_)
  intro ib40 io40 ha40 hl40 hc40
  refine cQ (v:=(.int .u64 y)) (j:=0) (k':=i) (enc:=encU) (off:=io40) J J J J α'97 ha40 encU_len hy Tk (by first | rfl | exact (Ad _).symm | omega) (by rfl) ?_
  refine qK J J J J (qK J J J J ?_)
  have sp_2:=Rv.get_open b va vc v hov i
  refine qB J J J J J J κ'76 (sp_2) Ts ?_
  rintro ⟨⟩ -
  try simp only [Ca,Na]
  refine ag_load_O (v:=(.slice ma m.length mc)) (j:=0) (k':=0) (enc:=encH) (off:=io37) J J J α'159 ha37 sB (rfl:([((ma,mc,m):LstA Int)])[0]?=some (ma,mc,m)) Tk (by first | rfl | exact (Ad _).symm | omega) (by rfl) ?_
  refine ag_load_O (v:=(.int .u64 y)) (j:=0) (k':=i) (enc:=encU) (off:=io40) J J J α'97 ha40 encU_len hy Tk (by first | rfl | exact (Ad _).symm | omega) (by rfl) ?_
  refine qV (qD J J J J J (b_gtr _ _ _ _) ?_)
  refine qS (qW [0,5,7,8,45] (e':=[(0,_),(5,_),(7,_),(8,_),(45,_)]) J ?_)
  refine qQ ?_
  refine qF J (fun hgt=>?_) (fun hgt=>?_)
  ·
   refine qC (.q 0 (.q 1 (.q 2 (.q 3 (.q 4 (.q 5 (.q 6 (.q 7 (.q 8 ((.l 9 [] (.done)))))))))))) Kr ?_
   refine qK J J J J (qK J J J J (qK J J J J (qK J J J J (cK (sz:=0) (k:=0) (enc:=encH) (xs:=[((ma,mc,m):LstA Int)]) J J J J J υ'221 ζ'159 (rfl:([((ma,mc,m):LstA Int)])[0]?=some (ma,mc,m)) (by first | rfl | omega) Om Tk ?_))))
   intro ib50 io50 ha50 hl50 hc50
   refine cQ (v:=(.slice ma m.length mc)) (j:=0) (k':=0) (enc:=encH) (off:=io50) J J J J α'159 ha50 sB (rfl:([((ma,mc,m):LstA Int)])[0]?=some (ma,mc,m)) Tk (by first | rfl | exact (Ad _).symm | omega) (by rfl) ?_
   refine qK J J J J (cK (sz:=0) (k:=i) (enc:=encU) (xs:=m) J J J J J υ'159 ζ'97 hy (by first | rfl | omega) Om Tk ?_)
   intro ib53 io53 ha53 hl53 hc53
   refine cQ (v:=(.int .u64 y)) (j:=0) (k':=i) (enc:=encU) (off:=io53) J J J J α'97 ha53 encU_len hy Tk (by first | rfl | exact (Ad _).symm | omega) (by rfl) ?_
   have sp_3:=Rv.put_open b va vc v hov i y Om
   refine qB J J J J J J Tryz.call77 (sp_3) Ts ?_
   rintro ⟨pa,pc⟩ -
   try simp only [Ca,Na]
   refine qV (qS (qW [0,5,7,8] (e':=[(0,_),(5,_),(7,_),(8,_)]) J ?_))
   refine kG (qQ (qC (.q 0 (.q 1 (.q 2 (.done)))) Kr ?_))
   refine qK J J J J (qD J J J J J (cF _ (by exact kY Om Om)) ?_)
   refine qR J J J J (qS (qQ ?_))
   rw [← hyg]
   refine kZ (x:=(i,v,va,vc)) ((i+1,withL v i (m.getD i 0),pa,pc)) ?_ ?_ ?_ ?_
   · try dsimp only
     exact ⟨by omega,ok_with hov Om Om Om,JnI_put hJ Om⟩
   · show m.length - (i+1) < m.length - i;omega
   · exact ⟨rfl,rfl,rfl,rfl,trivial⟩
   · (try simp only [Ca,Na]);exact Tf
  refine qH (kG (qQ (qC (.q 0 (.q 1 (.q 2 (.done)))) Kr ?_)))
  refine qK J J J J (qD J J J J J (cF _ (by exact kY Om Om)) ?_)
  refine qR J J J J (qS (qQ ?_))
  refine kZ (x:=(i,v,va,vc)) ((i+1,v,va,vc)) ?_ ?_ ?_ ?_
  · try dsimp only
    exact ⟨by omega,hov,JnI_skip hJ Om⟩
  · show m.length - (i+1) < m.length - i;omega
  · exact ⟨rfl,rfl,rfl,rfl,trivial⟩
  · (try simp only [Ca,Na]);exact Tf
 refine cS (qY (qY (kK (kG (qQ (qC (.q 0 (.q 1 (.q 2 (.done)))) Kr ?_))))))
 refine qK J J J J (qD J J J J J (cF _ (by exact kY Om Om)) ?_)
 refine qR J J J J (qS (qW [0,5,7] (e':=[(0,_),(5,_),(7,_)]) J ?_))
 refine qQ (c_round ?_)
 refine qL (qL (qC (.q 0 (.q 1 (.q 2 (.q 3 (.done))))) Kr ?_))
 refine qK J J J J (qK J J J J (sR J J J J υ'221 ?_))
 refine qD J J J J J (sK _ _ _ _) ?_
 refine qS (qQ ?_)
 refine qF J (fun hg=>by exfalso;omega) (fun hg=>?_)
 refine cS (qY (qY (kK (qQ (qL (qC (.q 0 (.done)) Kr ?_))))))
 refine qR J J J J (qS (qW [4] (e':=[(4,_)]) J ?_))
 refine qQ (qJ ?_)
 obtain rfl:i=m.length:=by omega
 refine ck_fold (b:=b) (ao:=va) (cap:=vc) (l:=v) (jn t u) Ts (by first | rfl | simp) hov (by rw [JnI_end ho hom hov hJ (Nat.le_refl _),ht,htm]) ?_
 refine cR J J (()) (by first | rfl | (first | rfl | (congr 1;done) | (congr 1 <;> first | rfl | omega | (simp;done) | (simp;omega)))) (by trivial) ?_
 exact Tf
theorem joined_none (a:Nat) (t:List Int):Spec Tryz.prog 81 [.pointer (some ⟨a,0,none⟩),.pointer none] [ckB a t] (fun (_:Unit)=>.pointer (some ⟨a,0,none⟩)) (fun _=>True) (fun _=>[ckB a t]):=by
 refine kS (n:=12) Tryz.func81 J J J ?_
 intro Γ w0
 simp only [argE,Ca,Na,Zd,Nat.reduceAdd]
 refine qL (qC (.q 0 (.done)) Kr ?_)
 refine qR J J J J (qS (qQ (qL (qL (qC (.q 0 (.q 1 (.done))) Kr ?_)))))
 refine qK J J J J (q_ne_nil J J J J υ'105 ?_)
 refine kF 6 J (v':=.bool false) J ?_
 refine qS (qQ (kN J ?_))
 refine qH (qQ (qL (qC (.q 0 (.q 1 (.done))) Kr ?_)))
 refine qK J J J J (qR J J J J (qS (qW [4] (e':=[(4,_)]) J ?_)))
 refine qQ (qJ (cR J J (()) (by first | rfl | (first | rfl | (congr 1;done) | (congr 1 <;> first | rfl | omega | (simp;done) | (simp;omega)))) (by trivial) ?_))
 exact Tf
theorem joined_some (a kb:Nat) (t u:List Int):Spec Tryz.prog 81 [.pointer (some ⟨a,0,none⟩),.pointer (some ⟨kb,0,none⟩)] [ckB a t,ckB kb u] (fun (_:Unit)=>.pointer (some ⟨a,0,none⟩)) (fun _=>True) (fun _=>[ckB a (jn t u),ckB kb u]):=by
 refine kS (n:=12) Tryz.func81 J J J ?_
 intro Γ w0
 simp only [argE,Ca,Na,Zd,Nat.reduceAdd]
 refine qL (qC (.q 0 (.done)) Kr ?_)
 refine qR J J J J (qS (qQ (qL (qL (qC (.q 0 (.q 1 (.done))) Kr ?_)))))
 refine qK J J J J (q_ne_nil J J J J υ'105 ?_)
 refine kF 6 J (v':=.bool true) J ?_
 refine qS (qQ (cC J ?_))
 refine qC (.q 0 (.q 1 ((.l 2 [] ((.l 3 [] (.done))))))) Kr ?_
 refine qK J J J J (qK J J J J (kJ J J J J (cW (us:=[_]) υ'101 ζ'105 J Tryz.zeroValue105 J J J) ?_))
 intro b9
 refine qV ?_
 have sp_1:=join1_spec a b9 kb t u
 refine qB J J J J J J Tryz.call110 (sp_1) Ts ?_
 rintro ⟨⟩ -
 try simp only [Ca,Na]
 refine qV (qS (qW [0] (e':=[(0,_)]) J ?_))
 refine qQ (qL (qC (.q 0 (.q 1 (.done))) Kr ?_))
 refine qK J J J J (qR J J J J (qS (qQ (qJ (cR J J (()) (by first | rfl | (first | rfl | (congr 1;done) | (congr 1 <;> first | rfl | omega | (simp;done) | (simp;omega)))) (by trivial) ?_)))))
 exact Tf
theorem joined_spec (a:Nat) (t:List Int) (k:Option Addr) (m:Option (List Int)):Spec Tryz.prog 81 [.pointer (some ⟨a,0,none⟩),.pointer k] [ckB a t,optR k m] (fun (_:Unit)=>.pointer (some ⟨a,0,none⟩)) (fun _=>True) (fun _=>[ckB a (mgF m t),optR k m]):=by
  cases m with
  | none =>
    intro Γ w s
    have hk:k=none:=by
      obtain ⟨h1,l1,a1,s1⟩:=s
      obtain ⟨h2,l2,a2,s2⟩:=s1
      exact a2
    subst hk
    exact (joined_none a t (optR none none::Γ) w s).mono fun e w' ⟨x,e1,hx,s',am⟩=>⟨x,e1,hx,s',am⟩
  | some u =>
    intro Γ w s
    have hk:∃ b,k=some ⟨b,0,none⟩:=by
      obtain ⟨h1,l1,a1,s1⟩:=s
      obtain ⟨h2,l2,⟨b,hb,a2⟩,s2⟩:=s1
      exact ⟨b,hb⟩
    obtain ⟨b,rfl⟩:=hk
    have conv:∀ {h:Hp},optR (some ⟨b,0,none⟩) (some u) h→ckB b u h:=fun q=>by
      obtain ⟨b2,e,q⟩:=q
      cases e;exact q
    have back:∀ {h:Hp},ckB b u h→optR (some ⟨b,0,none⟩) (some u) h:=fun q=>⟨b,rfl,q⟩
    have s2:Sat ([ckB a t,ckB b u]++Γ) (lh w):=Sat.cons_mono (fun h s=>Sat.head_mono (fun h q=>conv q) s) s
    exact (joined_some a b t u Γ w s2).mono fun e w' ⟨x,e1,hx,s',am⟩=>⟨x,e1,hx,Sat.cons_mono (fun h s=>Sat.head_mono (fun h q=>back q) s) s',am⟩
theorem more_spec (k:Int):Spec Tryz.prog 79 [.int .i64 k] [] (fun (_:Unit)=>.bool (decide (relK k))) (fun _=>True) (fun _=>[]):=by
 refine kS (n:=17) Tryz.func79 J J J ?_
 intro Γ w0
 simp only [argE,Ca,Na,Zd,Nat.reduceAdd]
 refine qL (qC (.q 0 (.done)) Kr ?_)
 refine qR J J J J (qS (qQ (qL (qC (.q 0 (.q 1 (.q 2 (.q 3 (.q 4 (.q 5 (.q 6 (.q 7 (.q 8 (.q 9 (.q 10 (.q 11 (.q 12 (.q 13 (.q 14 (.done)))))))))))))))) Kr ?_))))
 refine qK J J J J (qD J J J J J (cZ _ _ _ _) ?_)
 refine qK J J J J ?_
 refine cV 5 J (fun g_1=>?_) (fun g_1=>?_)
 ·
  refine qX J J J J (qX J J J J (kL J J J J J (qK J J J J (qX J J J J (qX J J J J (kL J J J J J (qK J J J J (qX J J J J ?_))))))))
  refine qX J J J J (kL J J J J J (qR J J J J (qS (qW [2] (e':=[(2,_)]) J ?_))))
  refine qQ (qJ (cR J J (()) (by congr 1;first | (symm;rw [decide_eq_true_eq];unfold relK;omega) | (rw [decide_eq_decide];unfold relK;omega)) (by trivial) ?_))
  exact Tf
 refine qK J J J J (qD J J J J J (cZ _ _ _ _) ?_)
 refine kD J J J J J (qK J J J J ?_)
 refine cV 9 J (fun g_2=>?_) (fun g_2=>?_)
 ·
  refine qX J J J J (qX J J J J (kL J J J J J (qK J J J J (qX J J J J (qX J J J J (kL J J J J J (qR J J J J (qS ?_))))))))
  refine qW [2] (e':=[(2,_)]) J ?_
  refine qQ (qJ (cR J J (()) (by congr 1;first | (symm;rw [decide_eq_true_eq];unfold relK;omega) | (rw [decide_eq_decide];unfold relK;omega)) (by trivial) ?_))
  exact Tf
 refine qK J J J J (qD J J J J J (cZ _ _ _ _) ?_)
 refine kD J J J J J (qK J J J J ?_)
 refine cV 13 J (fun g_3=>?_) (fun g_3=>?_)
 ·
  refine qX J J J J (qX J J J J (kL J J J J J (qR J J J J (qS (qW [2] (e':=[(2,_)]) J ?_)))))
  refine qQ (qJ (cR J J (()) (by congr 1;first | (symm;rw [decide_eq_true_eq];unfold relK;omega) | (rw [decide_eq_decide];unfold relK;omega)) (by trivial) ?_))
  exact Tf
 refine qK J J J J (qD J J J J J (cZ _ _ _ _) ?_)
 refine kD J J J J J (qR J J J J (qS (qW [2] (e':=[(2,_)]) J ?_)))
 refine qQ (qJ (cR J J (()) (by congr 1;first | (symm;rw [decide_eq_true_eq];unfold relK;omega) | (rw [decide_eq_decide];unfold relK;omega)) (by trivial) ?_))
 exact Tf
theorem round_yes (b n Rc:Nat) (c0 c1 c2 c3:Value) (Ra:Option Addr) (R:List KP) (o k:Int) (hn:R.length=n) (hnb:n≤4000000000000) (hex:∃ (j:Nat) (q:KP),R[j]?=some q∧q.1=o∧q.2.1=k):Spec Tryz.prog 87 [.pointer (some ⟨b,0,none⟩),.int .i64 o,.int .i64 k] [cells b 0 [c0,c1,c2,c3,.slice Ra n Rc],own 3 encK Ra Rc R] (fun (r:Nat)=>.int .i64 ((r:Nat):Int)) (fun r=>∃ q,R[r]?=some q∧q.1=o∧q.2.1=k) (fun r=>[cells b 0 [c0,c1,c2,c3,.slice Ra n Rc],own 3 encK Ra Rc R]):=by
 refine kS (n:=40) Tryz.func87 J J J ?_
 intro Γ w0
 simp only [argE,Ca,Na,Zd,Nat.reduceAdd]
 refine qL (qC (.q 0 (.done)) Kr ?_)
 refine qR J J J J (qS (qQ (qL (qL (qC (.q 0 (.done)) Kr ?_)))))
 refine qR J J J J (qS (qQ (kV ?_)))
 refine sS (α:=Nat) (fun (i:Nat)=>i≤n∧(∀ j:Nat,j < i→∀ q,R[j]?=some q→¬ (q.1=o∧q.2.1=k))) (fun (i:Nat)=>[(7,.int .i64 ((i:Nat):Int))]) (fun (i:Nat)=>[]) (fun (i:Nat)=>n - i) [0,1,2] (er:=[(0,_),(1,_),(2,_)]) J (0) ?_ (by exact ⟨rfl,trivial⟩) (by (try dsimp only);(try simp only [Ad,Zd]);(repeat ((with_reducible apply Z2);focus (first | (with_reducible (repeat (first | exact Z0 | apply Z1));done) | (repeat (first | exact Z0 | apply Z1)))));exact Z3) ?_
 · exact ⟨Nat.zero_le _,fun j h=>by omega⟩
 rintro i ⟨hle_i,hI⟩
 try simp only [Ca,Na]
 refine qL (qL (qC (.q 0 (.q 1 (.q 2 (.q 3 (.q 4 (.q 5 (.q 6 (.done)))))))) Kr ?_))
 refine qK J J J J (qK J J J J (qZ J J J J (qG (k:=4) J J J J υ'104 J ζ'102 J ?_)))
 refine qP (j:=4) J J J J α'102 Tk Az (by rfl) ?_
 refine sR J J J J υ'102 ?_
 refine qD J J J J J (sK _ _ _ _) ?_
 refine qS (qW [0,1,2,7,14] (e':=[(0,_),(1,_),(2,_),(7,_),(14,_)]) J ?_)
 refine qQ ?_
 refine qF J (fun hlt=>?_) (fun hlt=>by exfalso;obtain ⟨j0,q0,hj0,e1,e2⟩:=hex;exact hI j0 (by have:=(List.getElem?_eq_some_iff.1 hj0).1;omega) q0 hj0 ⟨e1,e2⟩)
 refine qH (qQ (qL (kV (qL ?_))))
 obtain ⟨p,hp⟩:=cX (l:=R) (i:=i) Om
 refine qC (.q 0 (.q 1 (.q 2 (.q 3 (.q 4 (.q 5 (.q 6 (.q 7 (.q 8 (.q 9 (.q 10 (.q 11 (.q 12 (.q 13 (.q 14 (.q 15 (.q 16 (.q 17 (.q 18 (.q 19 (.q 20 (.q 21 (.done))))))))))))))))))))))) Kr ?_
 refine qK J J J J (qZ J J J J (qG (k:=4) J J J J υ'104 J ζ'102 J ?_))
 refine qP (j:=4) J J J J α'102 Tk Az (by rfl) ?_
 refine qK J J J J (cK (sz:=2) (k:=i) (enc:=encK) (xs:=R) J J J J J υ'102 ζ'180 hp (by first | rfl | omega) Om Tk ?_)
 intro ib22 io22 ha22 hl22 hc22
 refine qG (k:=0) J J J J υ'180 J ζ'3 J ?_
 refine cQ (v:=(.int .i64 p.1)) (j:=0) (k':=i) (enc:=encK) (off:=io22) J J J J α'3 ha22 encK_len hp Tk (by first | rfl | exact (Ad _).symm | omega) (by rfl) ?_
 refine qK J J J J (qD J J J J J (cZ _ _ _ _) ?_)
 refine qK J J J J ?_
 refine cV 27 J (fun hne=>?_) (fun hne=>?_)
 ·
  refine qK J J J J (qZ J J J J (qG (k:=4) J J J J υ'104 J ζ'102 J ?_))
  refine qP (j:=4) J J J J α'102 Tk Az (by rfl) ?_
  refine qK J J J J (cK (sz:=2) (k:=i) (enc:=encK) (xs:=R) J J J J J υ'102 ζ'180 hp (by first | rfl | omega) Om Tk ?_)
  intro ib33 io33 ha33 hl33 hc33
  refine qG (k:=1) J J J J υ'180 J ζ'3 J ?_
  refine cQ (v:=(.int .i64 p.2.1)) (j:=1) (k':=i) (enc:=encK) (off:=io33) J J J J α'3 ha33 encK_len hp Tk (by first | rfl | exact (Ad _).symm | omega) (by rfl) ?_
  refine qK J J J J (qD J J J J J (cZ _ _ _ _) ?_)
  refine kL J J J J J (qS (qW [0,1,2,7,28,29,30,31,32,33,34,35,36,37,38] (e':=[(0,_),(1,_),(2,_),(7,_),(28,_),(29,_),(30,_),(31,_),(32,_),(33,_),(34,_),(35,_),(36,_),(37,_),(38,_)]) J ?_))
  refine qQ ?_
  refine qF J (fun hne2=>?_) (fun hne2=>?_)
  ·
   refine qL (qC (.q 0 (.q 1 (.done))) Kr ?_)
   refine qK J J J J (qR J J J J (qS (qW [6] (e':=[(6,_)]) J ?_)))
   refine qQ (qJ (kH (qN (qN (kH (qN (cR J J (i) (by first | rfl | (first | rfl | (congr 1;done) | (congr 1 <;> first | rfl | omega | (simp;done) | (simp;omega)))) (by exact ⟨p,hp,hne,hne2⟩) ?_)))))))
   exact Tf
  refine qH (kG (qQ (qC (.q 0 (.q 1 (.q 2 (.done)))) Kr ?_)))
  refine qK J J J J (qD J J J J J (cF _ (by exact kY Om Om)) ?_)
  refine qR J J J J (qS (qQ ?_))
  refine kZ (x:=i) (i+1) ?_ ?_ ?_ ?_
  · exact ⟨by omega,fun j hj q hq=>(by
        by_cases e:j=i
        · subst e;rw [hp] at hq;cases hq;intro h9;first | exact hne h9.1 | exact hne2 h9.2
        · exact hI j Om q hq)⟩
  · show n - (i+1) < n - i;omega
  · exact ⟨rfl,rfl,rfl,rfl,trivial⟩
  · (try simp only [Ca,Na]);exact Tf
 refine qX J J J J (qX J J J J (qX J J J J (qX J J J J (qX J J J J (qX J J J J (qX J J J J (qX J J J J (qX J J J J ?_))))))))
 refine qX J J J J (kD J J J J J (qS (qW [0,1,2,7,28,29,30,31,32,33,34,35,36,37,38] (e':=[(0,_),(1,_),(2,_),(7,_),(28,_),(29,_),(30,_),(31,_),(32,_),(33,_),(34,_),(35,_),(36,_),(37,_),(38,_)]) J ?_)))
 refine qQ (kN J ?_)
 refine qH (kG (qQ (qC (.q 0 (.q 1 (.q 2 (.done)))) Kr ?_)))
 refine qK J J J J (qD J J J J J (cF _ (by exact kY Om Om)) ?_)
 refine qR J J J J (qS (qQ ?_))
 refine kZ (x:=i) (i+1) ?_ ?_ ?_ ?_
 · exact ⟨by omega,fun j hj q hq=>(by
       by_cases e:j=i
       · subst e;rw [hp] at hq;cases hq;intro h9;first | exact hne h9.1 | exact hne2 h9.2
       · exact hI j Om q hq)⟩
 · show n - (i+1) < n - i;omega
 · exact ⟨rfl,rfl,rfl,rfl,trivial⟩
 · (try simp only [Ca,Na]);exact Tf
theorem round_no (b n Rc:Nat) (c0 c1 c2 c3:Value) (Ra:Option Addr) (R:List KP) (o k:Int) (hn:R.length=n) (hnb:n≤4000000000000) (hno:¬ ∃ (j:Nat) (q:KP),R[j]?=some q∧q.1=o∧q.2.1=k):Spec Tryz.prog 87 [.pointer (some ⟨b,0,none⟩),.int .i64 o,.int .i64 k] [cells b 0 [c0,c1,c2,c3,.slice Ra n Rc],own 3 encK Ra Rc R] (fun (_:Unit)=>.int .i64 (-1)) (fun _=>True) (fun _=>[cells b 0 [c0,c1,c2,c3,.slice Ra n Rc],own 3 encK Ra Rc R]):=by
 refine kS (n:=40) Tryz.func87 J J J ?_
 intro Γ w0
 simp only [argE,Ca,Na,Zd,Nat.reduceAdd]
 refine qL (qC (.q 0 (.done)) Kr ?_)
 refine qR J J J J (qS (qQ (qL (qL (qC (.q 0 (.done)) Kr ?_)))))
 refine qR J J J J (qS (qQ (kV ?_)))
 refine sS (α:=Nat) (fun (i:Nat)=>i≤n) (fun (i:Nat)=>[(7,.int .i64 ((i:Nat):Int))]) (fun (i:Nat)=>[]) (fun (i:Nat)=>n - i) [0,1,2] (er:=[(0,_),(1,_),(2,_)]) J (0) ?_ (by exact ⟨rfl,trivial⟩) (by (try dsimp only);(try simp only [Ad,Zd]);(repeat ((with_reducible apply Z2);focus (first | (with_reducible (repeat (first | exact Z0 | apply Z1));done) | (repeat (first | exact Z0 | apply Z1)))));exact Z3) ?_
 · exact Nat.zero_le _
 rintro i hle_i
 try simp only [Ca,Na]
 refine qL (qL (qC (.q 0 (.q 1 (.q 2 (.q 3 (.q 4 (.q 5 (.q 6 (.done)))))))) Kr ?_))
 refine qK J J J J (qK J J J J (qZ J J J J (qG (k:=4) J J J J υ'104 J ζ'102 J ?_)))
 refine qP (j:=4) J J J J α'102 Tk Az (by rfl) ?_
 refine sR J J J J υ'102 ?_
 refine qD J J J J J (sK _ _ _ _) ?_
 refine qS (qW [0,1,2,7,14] (e':=[(0,_),(1,_),(2,_),(7,_),(14,_)]) J ?_)
 refine qQ ?_
 refine qF J (fun hlt=>?_) (fun hlt=>?_)
 ·
  refine qH (qQ (qL (kV (qL ?_))))
  obtain ⟨p,hp⟩:=cX (l:=R) (i:=i) Om
  refine qC (.q 0 (.q 1 (.q 2 (.q 3 (.q 4 (.q 5 (.q 6 (.q 7 (.q 8 (.q 9 (.q 10 (.q 11 (.q 12 (.q 13 (.q 14 (.q 15 (.q 16 (.q 17 (.q 18 (.q 19 (.q 20 (.q 21 (.done))))))))))))))))))))))) Kr ?_
  refine qK J J J J (qZ J J J J (qG (k:=4) J J J J υ'104 J ζ'102 J ?_))
  refine qP (j:=4) J J J J α'102 Tk Az (by rfl) ?_
  refine qK J J J J (cK (sz:=2) (k:=i) (enc:=encK) (xs:=R) J J J J J υ'102 ζ'180 hp (by first | rfl | omega) Om Tk ?_)
  intro ib22 io22 ha22 hl22 hc22
  refine qG (k:=0) J J J J υ'180 J ζ'3 J ?_
  refine cQ (v:=(.int .i64 p.1)) (j:=0) (k':=i) (enc:=encK) (off:=io22) J J J J α'3 ha22 encK_len hp Tk (by first | rfl | exact (Ad _).symm | omega) (by rfl) ?_
  refine qK J J J J (qD J J J J J (cZ _ _ _ _) ?_)
  refine qK J J J J ?_
  refine cV 27 J (fun hne=>?_) (fun hne=>?_)
  ·
   refine qK J J J J (qZ J J J J (qG (k:=4) J J J J υ'104 J ζ'102 J ?_))
   refine qP (j:=4) J J J J α'102 Tk Az (by rfl) ?_
   refine qK J J J J (cK (sz:=2) (k:=i) (enc:=encK) (xs:=R) J J J J J υ'102 ζ'180 hp (by first | rfl | omega) Om Tk ?_)
   intro ib33 io33 ha33 hl33 hc33
   refine qG (k:=1) J J J J υ'180 J ζ'3 J ?_
   refine cQ (v:=(.int .i64 p.2.1)) (j:=1) (k':=i) (enc:=encK) (off:=io33) J J J J α'3 ha33 encK_len hp Tk (by first | rfl | exact (Ad _).symm | omega) (by rfl) ?_
   refine qK J J J J (qD J J J J J (cZ _ _ _ _) ?_)
   refine kL J J J J J (qS (qW [0,1,2,7,28,29,30,31,32,33,34,35,36,37,38] (e':=[(0,_),(1,_),(2,_),(7,_),(28,_),(29,_),(30,_),(31,_),(32,_),(33,_),(34,_),(35,_),(36,_),(37,_),(38,_)]) J ?_))
   refine qQ ?_
   refine qF J (fun hg=>by exfalso;exact hno ⟨i,p,hp,hne,hg⟩) (fun hg=>?_)
   refine qH (kG (qQ (qC (.q 0 (.q 1 (.q 2 (.done)))) Kr ?_)))
   refine qK J J J J (qD J J J J J (cF _ (by exact kY Om Om)) ?_)
   refine qR J J J J (qS (qQ ?_))
   refine kZ (x:=i) (i+1) ?_ ?_ ?_ ?_
   · exact by show i+1≤n;omega
   · show n - (i+1) < n - i;omega
   · exact ⟨rfl,rfl,rfl,rfl,trivial⟩
   · (try simp only [Ca,Na]);exact Tf
  refine qX J J J J (qX J J J J (qX J J J J (qX J J J J (qX J J J J (qX J J J J (qX J J J J (qX J J J J (qX J J J J ?_))))))))
  refine qX J J J J (kD J J J J J (qS (qW [0,1,2,7,28,29,30,31,32,33,34,35,36,37,38] (e':=[(0,_),(1,_),(2,_),(7,_),(28,_),(29,_),(30,_),(31,_),(32,_),(33,_),(34,_),(35,_),(36,_),(37,_),(38,_)]) J ?_)))
  refine qQ (kN J ?_)
  refine qH (kG (qQ (qC (.q 0 (.q 1 (.q 2 (.done)))) Kr ?_)))
  refine qK J J J J (qD J J J J J (cF _ (by exact kY Om Om)) ?_)
  refine qR J J J J (qS (qQ ?_))
  refine kZ (x:=i) (i+1) ?_ ?_ ?_ ?_
  · exact by show i+1≤n;omega
  · show n - (i+1) < n - i;omega
  · exact ⟨rfl,rfl,rfl,rfl,trivial⟩
  · (try simp only [Ca,Na]);exact Tf
 refine cS (qY (qY (kK (qQ (qL (qC (.q 0 (.done)) Kr ?_))))))
 refine qR J J J J (qS (qW [6] (e':=[(6,_)]) J ?_))
 refine qQ (qJ (cR J J (()) (by first | rfl | (first | rfl | (congr 1;done) | (congr 1 <;> first | rfl | omega | (simp;done) | (simp;omega)))) (by trivial) ?_))
 exact Tf
theorem keep_yes (b Rc tb:Nat) (c0 c1 c2 c3:Value) (Ra:Option Addr) (R:List KP) (Y:List RK) (o k:Int) (t:List Int) (hRY:R.length=Y.length) (hnb:R.length≤4000000000000) (hex:∃ (j:Nat) (q:KP),R[j]?=some q∧q.1=o∧q.2.1=k):Spec Tryz.prog 85 [.pointer (some ⟨b,0,none⟩),.int .i64 o,.int .i64 k,.pointer (some ⟨tb,0,none⟩)] [cells b 0 [c0,c1,c2,c3,.slice Ra R.length Rc],own 3 encK Ra Rc R,restL krA R Y [],ckB tb t] (fun (r:Nat)=>.tuple #[]) (fun r=>∃ q,Y[r]?=some q∧q.1=o∧q.2.1=k) (fun r=>[cells b 0 [c0,c1,c2,c3,.slice Ra R.length Rc],own 3 encK Ra Rc R,restL krA R (Y.set r ((Y.getD r (0,0,[])).1,(Y.getD r (0,0,[])).2.1,mgF (some t) (Y.getD r (0,0,[])).2.2)) [],ckB tb t]):=by
 refine kS (n:=46) Tryz.func85 J J J ?_
 intro Γ w0
 simp only [argE,Ca,Na,Zd,Nat.reduceAdd]
 refine qL (qC (.q 0 (.q 1 (.q 2 ((.l 3 [] (.q 4 (.done))))))) Kr ?_)
 refine qK J J J J (qK J J J J (qK J J J J ?_))
 have sp_1:=round_yes b R.length Rc c0 c1 c2 c3 Ra R o k Ln Om hex
 refine qB J J J J J J κ'87 (sp_1) Ts ?_
 rintro ri ⟨rq,hrq,hrq1,hrq2⟩
 have hril:=(List.getElem?_eq_some_iff.1 hrq).1
 try simp only [Ca,Na]
 refine qV ?_
 have hyl:=List.getElem?_eq_getElem (l:=Y) (i:=ri) Om
 obtain ⟨y,hy⟩:∃ y,Y[ri]?=some y:=⟨_,hyl⟩
 refine rQ (res:=krA) (V:=R) (Y:=Y) (S:=[]) ri Tk (by simp) hy fun v hv=>?_
 have hvq:v=rq:=by rw [hrq] at hv;cases hv;rfl
 subst hvq
 refine s_kr Tk fun rb hrb=>?_
 subst hrb
 simp only at hrq1 hrq2
 refine qR J J J J (qS (qW [0,1,2,3,8] (e':=[(0,_),(1,_),(2,_),(3,_),(8,_)]) J ?_))
 refine qQ (qL (qL (qC (.q 0 (.q 1 (.done))) Kr ?_)))
 refine qK J J J J (qD J J J J J (sK _ _ _ _) ?_)
 refine qS (qQ ?_)
 refine qF J (fun hg=>by exfalso;omega) (fun hg=>?_)
 refine qH (qQ (kM J (.q 0 (.q 1 (.q 2 (.q 3 (.q 4 (.q 5 (.q 6 (.q 7 (.q 8 (.q 9 (.q 10 (.q 11 (.q 12 (.q 13 ((.l 14 [3] (.q 15 (.q 16 ((.l 17 [] (.done))))))))))))))))))))) Kr ?_))
 refine qK J J J J (qZ J J J J (qG (k:=4) J J J J υ'104 J ζ'102 J ?_))
 refine qP (j:=4) J J J J α'102 Tk Az (by rfl) ?_
 refine qK J J J J (qK J J J J (qZ J J J J (qG (k:=4) J J J J υ'104 J ζ'102 J ?_)))
 refine qP (j:=4) J J J J α'102 Tk Az (by rfl) ?_
 refine qK J J J J (cK (sz:=2) (k:=ri) (enc:=encK) (xs:=R) J J J J J υ'102 ζ'180 hrq (by first | rfl | omega) Om Tk ?_)
 intro ib39 io39 ha39 hl39 hc39
 refine qG (k:=2) J J J J υ'180 J ζ'105 J ?_
 refine cQ (v:=(.pointer (some ⟨rb,0,none⟩))) (j:=2) (k':=ri) (enc:=encK) (off:=io39) J J J J α'105 ha39 encK_len hrq Tk (by first | rfl | exact (Ad _).symm | omega) (by rfl) ?_
 refine qK J J J J (optR_someF (b:=tb) (t:=t) Tk ?_)
 have sp_2:=joined_spec rb y.2.2 (some ⟨tb,0,none⟩:Option Addr) (some t)
 refine qB J J J J J J κ'81 (sp_2) Ts ?_
 rintro ⟨⟩ -
 try simp only [Ca,Na]
 refine qM (q:=4) J J J α'102 Tk Az (by rfl) ?_
 refine qV (optR_some (a:=(some ⟨tb,0,none⟩)) (t:=t) Tk fun tb_ htb_=>?_)
 cases htb_
 refine cK (sz:=2) (k:=ri) (enc:=encK) (xs:=R) J J J J J υ'102 ζ'180 hrq (by first | rfl | omega) Om Tk ?_
 intro ib44 io44 ha44 hl44 hc44
 refine qG (k:=2) J J J J υ'180 J ζ'105 J ?_
 refine sC (j:=2) (k:=ri) (q:=(y.1,y.2.1,some ⟨rb,0,none⟩)) (enc:=encK) (off:=io44) J J J J ζ'105 (us:=[_]) J J J ha44 encK_len hrq Tk (by first | rfl | exact (Ad _).symm | omega) (by first | decide | exact Nat.le_of_ble_eq_true J) (by rfl) ?_
 refine qV ?_
 rw [set_sameL hrq]
 refine qS (qW [] (e':=[]) J ?_)
 refine sZ ?_
 refine s_krF rb (y.1,y.2.1,mgF (some t) y.2.2) Td ?_
 refine sJ (res:=krA) (V:=R) (Y:=Y) (S:=[]) ri (y.1,y.2.1,some ⟨rb,0,none⟩) (y.1,y.2.1,mgF (some t) y.2.2) Ts (by simp) hril Om ?_
 rw [set_sameL hrq]
 refine ret0 J (ri) (by first | rfl | (first | rfl | (congr 1;done) | (congr 1 <;> first | rfl | omega | (simp;done) | (simp;omega)))) (by exact ⟨y,hy,hrq1,hrq2⟩) ?_
 rw [show Y.getD ri (0,0,[])=y from by rw [List.getD_eq_getElem?_getD,hy];rfl]
 exact Tf
theorem keep_no (b Rc tb:Nat) (c0 c1 c2 c3:Value) (Ra:Option Addr) (R:List KP) (Y:List RK) (o k:Int) (t:List Int) (hRY:R.length=Y.length) (hnb:R.length≤4000000000000) (hno:¬ ∃ (j:Nat) (q:KP),R[j]?=some q∧q.1=o∧q.2.1=k):Spec Tryz.prog 85 [.pointer (some ⟨b,0,none⟩),.int .i64 o,.int .i64 k,.pointer (some ⟨tb,0,none⟩)] [cells b 0 [c0,c1,c2,c3,.slice Ra R.length Rc],own 3 encK Ra Rc R,restL krA R Y [],ckB tb t] (fun (r:Nat × Option Addr × Nat)=>.tuple #[]) (fun r=>True) (fun r=>[cells b 0 [c0,c1,c2,c3,.slice r.2.1 (R.length+1) r.2.2],own 3 encK r.2.1 r.2.2 (R++[((o,k,some ⟨r.1,0,none⟩):KP)]),restL krA (R++[((o,k,some ⟨r.1,0,none⟩):KP)]) (Y++[((o,k,t):RK)]) [],ckB tb t]):=by
 refine kS (n:=46) Tryz.func85 J J J ?_
 intro Γ w0
 simp only [argE,Ca,Na,Zd,Nat.reduceAdd]
 refine qL (qC (.q 0 (.q 1 (.q 2 ((.l 3 [] (.q 4 (.done))))))) Kr ?_)
 refine qK J J J J (qK J J J J (qK J J J J ?_))
 have sp_1:=round_no b R.length Rc c0 c1 c2 c3 Ra R o k Ln Om hno
 refine qB J J J J J J κ'87 (sp_1) Ts ?_
 rintro ⟨⟩ -
 try simp only [Ca,Na]
 refine qV (qR J J J J (qS (qW [0,1,2,3,8] (e':=[(0,_),(1,_),(2,_),(3,_),(8,_)]) J ?_)))
 refine qQ (qL (qL (qC (.q 0 (.q 1 (.done))) Kr ?_)))
 refine qK J J J J (qD J J J J J (sK _ _ _ _) ?_)
 refine kF 14 J (v':=.bool true) (by first | rfl | simp) ?_
 refine qS (qQ (cC J ?_))
 refine qL (kM J (.q 0 (.q 1 (.q 2 (.q 3 (.q 4 (.q 5 (.q 6 (.q 7 ((.l 8 [4] (.q 9 ((.l 10 [4] ((.l 11 [] (.q 12 (.q 13 ((.l 14 [] (.done)))))))))))))))))))) Kr ?_)
 refine qK J J J J (qK J J J J (qZ J J J J (qG (k:=4) J J J J υ'104 J ζ'102 J ?_)))
 refine qP (j:=4) J J J J α'102 Tk Az (by rfl) ?_
 refine qK J J J J (qK J J J J (qK J J J J ?_))
 have sp_2:=Rv.copy_spec tb t
 refine qB J J J J J J κ'82 (sp_2) Ts ?_
 rintro qb -
 try simp only [Ca,Na]
 refine qM (q:=4) J J J α'102 Tk Az (by rfl) ?_
 refine qV (kB J J J J (vs:=[_,_,_]) (kQ υ'180 ω'180 (ps:=[(0,1),(1,1),(2,1)]) ⟨rfl,ζ'3,rfl,ζ'3,rfl,ζ'105,trivial⟩ rfl) ?_)
 refine kJ J J J J (cW (us:=[_,_,_]) υ'102 ζ'180 J ω'180 J J J) ?_
 intro b25
 refine qM (q:=4) J J J α'102 Tk Az (by rfl) ?_
 refine qV (cN (sz:=3) (enc:=encK) (xs:=R) J J J J J υ'102 Tryz.typeInfo180 J J J (by decide) Tk Tk (by first | rfl | omega | (simp;done) | (simp;omega)) (ys:=[((o,k,some ⟨qb,0,none⟩):KP)]) (cJ cB) (by rfl) (by first | rfl | omega) (encK_len) (encK_one) Om (by show _*24≤_;omega) ?_)
 intro ra2 rc2
 refine qV (qZ J J J J (qG (k:=4) J J J J υ'104 J ζ'102 J ?_))
 refine kR (j:=4) J J J J ζ'102 (us:=[_]) J J J Tk Az (by first | decide | (simp;done) | omega) ?_
 simp only [setL,List.set]
 refine qV (qS (qW [] (e':=[]) J ?_))
 refine qQ (qJ (qN (s_krF qb (o,k,t) Td ?_)))
 refine s_restL_push (res:=krA) (V:=R) (Y:=Y) ((o,k,some ⟨qb,0,none⟩):KP) ((o,k,t):RK) Ts hRY ?_
 refine ret0 J ((qb,ra2,rc2)) (by first | rfl | (first | rfl | (congr 1;done) | (congr 1 <;> first | rfl | omega | (simp;done) | (simp;omega)))) (by trivial) ?_
 exact Tf
end Go.Ab.Rv
set_option linter.unusedVariables false
set_option linter.unusedSimpArgs false
set_option maxRecDepth 100000
namespace Go.Ab.Rv
open Go Go.Proofs Go.Ab Go.Ab.Fe Go.Ab.Vc Go.Ab.Dj
theorem s_krk {w0:World} {ds:List Deferred} {n:Nat} {e:Env} {Γ Γ':List HProp} {X:Act→World→Prop} {V:List KP} {Y:List RK} (tk:Take Γ (restL krA V Y []) Γ') (k:(∀ (j:Nat) v y,V[j]?=some v→Y[j]?=some y→v.1=y.1∧v.2.1=y.2.1)→Le (St w0 ds n e Γ) X):Le (St w0 ds n e Γ) X :=
  s_know (p:=∀ (j:Nat) v y,V[j]?=some v→Y[j]?=some y→v.1=y.1∧v.2.1=y.2.1) (fun h s j v y hv hy=>by
    obtain ⟨v',hv',s'⟩:=rest_take (F:=fun i:Nat=>V[i]?) (T:=fun i:Nat=>Y[i]?) (k:=j) (by simp) hy (tk h s)
    rw [hv] at hv';cases hv'
    obtain ⟨h1,l1,a1⟩:=s'.head
    exact ⟨a1.1,a1.2.1⟩) k
theorem clock_spec (pa:Option Addr) (pc b:Nat) (x:VS) (hx:VInv x) (t:Nat) (l:List Int) (hth:x.th ((t:Nat):Int)=some l):Spec Tryz.prog 38 [.pointer (some ⟨b,0,none⟩),.int .i64 ((t:Nat):Int)] [rvR pa pc b x] (fun (_:Unit)=>.int .u64 (l.getD t 0)) (fun _=>True) (fun _=>[rvR pa pc b x]):=by
 refine kS (n:=25) Tryz.func38 J J J ?_
 intro Γ w0
 simp only [argE,Ca,Na,Zd,Nat.reduceAdd]
 refine qL (qC (.q 0 (.done)) Kr ?_)
 refine qR J J J J (qS (qQ (qL (qL (rv_open (pa:=pa) (pc:=pc) (b:=b) (x:=x) Tk fun cb Ta Tc La Lc Oa Oc Ra Rc VT VL VO VR YR hVT hVL hVO hVR hK=>?_)))))
 have hTl:=hx.ck.tl
 obtain ⟨-,hts_,-⟩:=stF_nz (x:=x.ck) (t:=((t:Nat):Int)) ((hx.th _).1 (by rw [hth];rfl))
 rw [Int.toNat_natCast] at hts_
 have htt:(tabF x.ck.th.toNat x.th)[t]?=some (some l):=by rw [tab_get Om,hth]
 refine rQ (res:=optR) (V:=VT) (Y:=tabF x.ck.th.toNat x.th) (S:=[]) t Tk (by simp) htt fun ta hta=>?_
 refine optR_some (a:=ta) (t:=l) Tk fun tb htb=>?_
 subst htb
 refine qC (.q 0 (.q 1 (.q 2 (.q 3 (.q 4 (.q 5 (.q 6 (.q 7 (.q 8 (.q 9 (.q 10 (.done)))))))))))) Kr ?_
 refine qK J J J J (qD J J J J J (sK _ _ _ _) ?_)
 refine qK J J J J ?_
 refine cV 7 J (fun hg=>by exfalso;omega) (fun hg=>?_)
 refine qK J J J J (qK J J J J (qZ J J J J (qG (k:=1) J J J J υ'104 J ζ'101 J ?_)))
 refine qP (j:=1) J J J J α'101 Tk Az (by rfl) ?_
 refine sR J J J J υ'101 ?_
 refine qD J J J J J (b_geq _ _ _ _) ?_
 refine kD J J J J J (qS (qW [0,1,15] (e':=[(0,_),(1,_),(15,_)]) J ?_))
 refine qQ ?_
 refine qF J (fun hg=>by exfalso;omega) (fun hg=>?_)
 refine qH (qQ (qL (qC (.q 0 (.q 1 (.q 2 (.q 3 (.q 4 (.q 5 (.q 6 (.q 7 ((.l 8 [] (.q 9 (.done)))))))))))) Kr ?_)))
 refine qK J J J J (qZ J J J J (qG (k:=1) J J J J υ'104 J ζ'101 J ?_))
 refine qP (j:=1) J J J J α'101 Tk Az (by rfl) ?_
 refine qK J J J J (cK (sz:=0) (k:=t) (enc:=encA) (xs:=VT) J J J J J υ'101 ζ'105 hta (by first | rfl | omega) Om Tk ?_)
 intro ib21 io21 ha21 hl21 hc21
 refine cQ (v:=(.pointer (some ⟨tb,0,none⟩))) (j:=0) (k':=t) (enc:=encA) (off:=io21) J J J J α'105 ha21 encA_len hta Tk (by first | rfl | exact (Ad _).symm | omega) (by rfl) ?_
 refine qK J J J J ?_
 have sp_1:=Rv.get_spec tb l t
 refine qB J J J J J J κ'76 (sp_1) Ts ?_
 rintro ⟨⟩ -
 try simp only [Ca,Na]
 refine qV (qR J J J J (qS (qW [4] (e':=[(4,_)]) J ?_)))
 refine qQ (qJ (optR_someF (b:=tb) (t:=l) Tk ?_))
 refine rX (res:=optR) (V:=VT) (Y:=tabF x.ck.th.toNat x.th) (S:=[]) t Ts (by simp) hta htt ?_
 refine rv_fold (b:=b) x (pa:=pa) (pc:=pc) (cb:=cb) (Ta:=Ta) (Tc:=Tc) (La:=La) (Lc:=Lc) (Oa:=Oa) (Oc:=Oc) (Ra:=Ra) (Rc:=Rc) (VT:=VT) (VL:=VL) (VO:=VO) (VR:=VR) (YR:=YR) Ts (by first | rfl | simp) (by first | rfl | simp) (by first | rfl | simp) (by first | rfl | simp) J J J J hVT hVL hVO hVR hK ?_
 refine cR J J (()) (by first | rfl | (first | rfl | (congr 1;done) | (congr 1 <;> first | rfl | omega | (simp;done) | (simp;omega)))) (by trivial) ?_
 exact Tf
theorem vcan_spec (pa:Option Addr) (pc b:Nat) (x:VS) (hx:VInv x) (k t o:Int):Spec Tryz.prog 34 [.pointer (some ⟨b,0,none⟩),.agg #[.int .i64 k,.int .i64 t,.int .i64 o]] [rvR pa pc b x] (fun (_:Unit)=>.bool (decide (vcanF x k t o))) (fun _=>True) (fun _=>[rvR pa pc b x]):=by
 refine kS (n:=24) Tryz.func34 J J J ?_
 intro Γ w0
 simp only [argE,Ca,Na,Zd,Nat.reduceAdd]
 refine qL (qC ((.l 0 [] (.q 1 (.done)))) Kr ?_)
 refine sG J J J J (us:=[_,_,_]) J ?_
 intro b3
 refine qV (qR J J J J (qS (qQ (qL (rv_open (pa:=pa) (pc:=pc) (b:=b) (x:=x) Tk fun cb Ta Tc La Lc Oa Oc Ra Rc VT VL VO VR YR hVT hVL hVO hVR hK=>?_)))))
 refine kM J (.q 0 (.q 1 (.q 2 (.q 3 (.q 4 ((.l 5 [] (.q 6 (.q 7 (.q 8 ((.l 9 [] (.q 10 (.q 11 (.q 12 (.q 13 (.q 14 ((.l 15 [] (.q 16 (.q 17 (.q 18 (.q 19 (.done)))))))))))))))))))))))) Kr ?_
 refine qK J J J J (qZ J J J J (qG (k:=0) J J J J υ'104 J ζ'98 J ?_))
 refine qP (j:=0) J J J J α'98 Tk Az (by rfl) ?_
 refine kC J J J J α'52 ζ'52 Tk 0 (us:=[_,_,_]) Az J J ?_
 have sp_1:=Fe.rcan_spec pa pc cb x.ck hx.ck k t o
 refine qB J J J J J J Tryz.call78 (sp_1) Ts ?_
 rintro ⟨⟩ -
 try simp only [Ca,Na]
 refine qV (rv_fold (b:=b) x (pa:=pa) (pc:=pc) (cb:=cb) (Ta:=Ta) (Tc:=Tc) (La:=La) (Lc:=Lc) (Oa:=Oa) (Oc:=Oc) (Ra:=Ra) (Rc:=Rc) (VT:=VT) (VL:=VL) (VO:=VO) (VR:=VR) (YR:=YR) Ts (by first | rfl | simp) (by first | rfl | simp) (by first | rfl | simp) (by first | rfl | simp) J J J J hVT hVL hVO hVR hK ?_)
 refine qK J J J J ?_
 refine cV 11 J (fun hc=>?_) (fun hc=>?_)
 ·
  obtain ⟨l,hth⟩:=th_some hx (can_th hc)
  obtain ⟨h0_,h1_⟩:=th_rng hx (can_th hc)
  obtain ⟨i,rfl⟩:=Int.eq_ofNat_of_zero_le h0_
  have hlc:=hx.thc _ _ hth
  have hgg:=g_rng hlc.rng (by decide) i
  refine qG (k:=0) J J J J υ'52 J ζ'50 J ?_
  refine qP (j:=0) J J J J α'50 Tk Az (by rfl) ?_
  have sp_2:=Rv.more_spec k
  refine qB J J J J J J κ'79 (sp_2) Ts ?_
  rintro ⟨⟩ -
  try simp only [Ca,Na]
  refine qV (rK J J J J ?_)
  refine qK J J J J ?_
  refine s_bool_np 16 J (fun hrl=>?_) (fun hrl=>?_)
  ·
   refine qX J J J J (qX J J J J (qX J J J J (rW J J J J ?_)))
   refine qX J J J J (kL J J J J J (kL J J J J J (qR J J J J (qS (qW [4] (e':=[(4,_)]) J ?_)))))
   refine qQ (qJ (cR J J (()) (by congr 1;first | (rw [decide_eq_decide];unfold vcanF;rw [thF_eq hth,Int.toNat_natCast];exact ⟨fun h=>⟨hc,fun _=>h⟩,fun h=>h.2 hrl⟩) | (symm;rw [decide_eq_false_iff_not];exact fun h=>hc h.1) | (symm;rw [decide_eq_true_eq];exact ⟨hc,fun h=>absurd h hrl⟩)) (by trivial) ?_))
   exact Tf
  refine qK J J J J (qG (k:=1) J J J J υ'52 J ζ'3 J ?_)
  refine qP (j:=1) J J J J α'3 Tk Az (by rfl) ?_
  refine kF 19 J (v':=.int .i64 ((i:Nat):Int)) (by rfl) ?_
  have sp_3:=clock_spec pa pc b x hx i l hth
  refine qB J J J J J J κ'38 (sp_3) Ts ?_
  rintro ⟨⟩ -
  try simp only [Ca,Na]
  refine qV (qD J J J J J (sK _ _ _ _) ?_)
  refine kD J J J J J (kL J J J J J (qR J J J J (qS (qW [4] (e':=[(4,_)]) J ?_))))
  refine qQ (qJ (cR J J (()) (by congr 1;first | (rw [decide_eq_decide];unfold vcanF;rw [thF_eq hth,Int.toNat_natCast];exact ⟨fun h=>⟨hc,fun _=>h⟩,fun h=>h.2 hrl⟩) | (symm;rw [decide_eq_false_iff_not];exact fun h=>hc h.1) | (symm;rw [decide_eq_true_eq];exact ⟨hc,fun h=>absurd h hrl⟩)) (by trivial) ?_))
  exact Tf
 refine qX J J J J (qX J J J J (rW J J J J ?_))
 refine qX J J J J (qX J J J J (qX J J J J (qX J J J J (qX J J J J (rW J J J J ?_)))))
 refine qX J J J J (qX J J J J (kD J J J J J (qR J J J J (qS (qW [4] (e':=[(4,_)]) J ?_)))))
 refine qQ (qJ (cR J J (()) (by congr 1;first | (rw [decide_eq_decide];unfold vcanF;rw [thF_eq hth,Int.toNat_natCast];exact ⟨fun h=>⟨hc,fun _=>h⟩,fun h=>h.2 hrl⟩) | (symm;rw [decide_eq_false_iff_not];exact fun h=>hc h.1) | (symm;rw [decide_eq_true_eq];exact ⟨hc,fun h=>absurd h hrl⟩)) (by trivial) ?_))
 exact Tf
end Go.Ab.Rv
