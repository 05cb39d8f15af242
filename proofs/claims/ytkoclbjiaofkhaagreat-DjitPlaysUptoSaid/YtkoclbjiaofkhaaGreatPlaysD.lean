/- What the law Plays rests on, part 4 of 8. -/
import Derived.Test.YtkoclbjiaofkhaaGreatPlaysC
set_option linter.unusedVariables false
set_option linter.unusedSimpArgs false
set_option maxRecDepth 100000
namespace Go.Ab.Dj
open Go Go.Proofs Go.Ab Go.Ab.Fe Go.Ab.Vc
theorem th_some {x:VS} (hx:VInv x) {t:Int} (h:(stF x.ck t).1≠0):∃ l,x.th t=some l:=Option.isSome_iff_exists.1 ((hx.th t).2 h)
theorem thF_eq {x:VS} {t:Int} {l:List Int} (h:x.th t=some l):thF x t=l:=by rw [thF,h];rfl
theorem th_rng {x:VS} (hx:VInv x) {t:Int} (h:(stF x.ck t).1≠0):0≤t∧t < 65535:=by
  obtain ⟨h0,h1,-⟩:=stF_nz h
  have h2:=hx.ck.tl
  have h3:=hx.ck.sh.th
  exact ⟨h0,by omega⟩
/-- A round that somebody waits in is kept. -/
theorem rd_some {x:VS} (hx:VInv x) {t o:Int} (h:(stF x.ck t).1=2) (ho:o=(stF x.ck t).2.1):∃ p,x.rd (o,(stF x.ck t).2.2)=some p∧1≤p.2:=by
  obtain ⟨h0,h1,h2⟩:=stF_nz (x:=x.ck) (t:=t) Om
  have h3:0 < wtN x.ck o (stF x.ck t).2.2:=by
    unfold wtN
    rw [List.countP_pos_iff]
    exact ⟨stF x.ck t,List.mem_of_getElem? h2,decide_eq_true (by rw [ho,← h])⟩
  have h4:=hx.wt o (stF x.ck t).2.2
  cases hr:x.rd (o,(stF x.ck t).2.2) with
  | none=>rw [rdF,hr] at h4;simp at h4;omega
  | some p=>rw [rdF,hr] at h4;exact ⟨p,rfl,by simp at h4;omega⟩
def dpF (x:VS) (t o:Int):VS:=⟨x.ck,upd x.th t (some (jn (thF x t) (rdF x (o,(stF x.ck t).2.2)).1)),x.lk,x.vo,upd x.rd (o,(stF x.ck t).2.2) (if (rdF x (o,(stF x.ck t).2.2)).2 - 1≤0 then none else some ((rdF x (o,(stF x.ck t).2.2)).1,(rdF x (o,(stF x.ck t).2.2)).2 - 1))⟩
theorem clock_spec (b m1:Nat) (v0 v1 v3 v4 v5:Value) (F1:Int→Option (Option Addr)) (tb:Nat) (ta:Option Addr) (tc:Nat) (l:List Int) (t:Int) (h0:0≤t) (hF:F1 t=some (some ⟨tb,0,none⟩)):Spec Tryz.prog 31 [.pointer (some ⟨b,0,none⟩),.int .i64 t] [cells b 0 [v0,v1,.map (some m1),v3,v4,v5],mapO ekZ evA m1 F1,cells tb 0 [.slice ta l.length tc],own 1 encU ta tc l] (fun (_:Unit)=>.int .u64 (l.getD t.toNat 0)) (fun _=>True) (fun _=>[cells b 0 [v0,v1,.map (some m1),v3,v4,v5],mapO ekZ evA m1 F1,cells tb 0 [.slice ta l.length tc],own 1 encU ta tc l]):=by
 refine kQ (n:=13) Tryz.func31 rfl rfl rfl ?_
 intro Γ w0
 simp only [argE,Ca,Na,Zd,Nat.reduceAdd]
 refine qL (qC (.q 0 (.done)) Kr ?_)
 refine qS rfl rfl rfl rfl (qR (qQ (qL (qC (.q 0 (.q 1 (.q 2 (.q 3 (.q 4 (.q 5 (.q 6 ((.l 7 [] (.q 8 (.done))))))))))) Kr ?_))))
 refine qK rfl rfl rfl rfl (qX rfl rfl rfl rfl (qG (k:=2) rfl rfl rfl rfl υ'87 rfl ζ'84 rfl ?_))
 refine qP (j:=2) rfl rfl rfl rfl α'84 Tk Az (by rfl) ?_
 refine qK rfl rfl rfl rfl (rQ (ek:=ekZ) (ev1:=evA) (F:=F1) (m:=m1) (k:=t) none rfl rfl rfl rfl rfl υ'84 (cM υ'3) ω'79 Tk ?_)
 refine kB 10 rfl (v':=.pointer (some ⟨tb,0,none⟩)) (by rw [hF];rfl) ?_
 refine qK rfl rfl rfl rfl ?_
 have sp_1:=get_z tb l ta l.length tc Ln t Om
 refine qM rfl rfl rfl rfl rfl rfl Tryz.call67 (sp_1) Ts ?_
 rintro ⟨⟩ -
 try simp only [Ca,Na]
 refine qV (qS rfl rfl rfl rfl (qR (qW [4] (e':=[(4,_)]) rfl ?_)))
 refine qQ (qJ (kD rfl rfl (()) (by first | rfl | (first | rfl | (congr 1;done) | (congr 1 <;> first | rfl | omega | (simp;done) | (simp;omega)))) (by trivial) ?_))
 exact Tf
theorem can_spec (pa:Option Addr) (pc:Nat) (po:Option Addr) (poc b:Nat) (x:VS) (hx:VInv x) (k t o:Int):Spec Tryz.prog 27 [.pointer (some ⟨b,0,none⟩),.agg #[.int .i64 k,.int .i64 t,.int .i64 o]] [vsR pa pc po poc b x] (fun (_:Unit)=>.bool (decide (vcanF x k t o))) (fun _=>True) (fun _=>[vsR pa pc po poc b x]):=by
 refine kQ (n:=24) Tryz.func27 rfl rfl rfl ?_
 intro Γ w0
 simp only [argE,Ca,Na,Zd,Nat.reduceAdd]
 refine qL (qC ((.l 0 [] (.q 1 (.done)))) Kr ?_)
 refine sP rfl rfl rfl rfl (us:=[_,_,_]) rfl ?_
 intro b3
 refine qV (qS rfl rfl rfl rfl (qR (qQ (qL (qL (cS (A:=vsR pa pc po poc b x) Tk ?_))))))
 refine vs_open fun cb m1 m2 m3 m4 F1 F2 F3 F4=>?_
 refine kL rfl (.q 0 (.q 1 (.q 2 (.q 3 (.q 4 ((.l 5 [] (.q 6 (.done))))))))) Kr ?_
 refine qK rfl rfl rfl rfl (qX rfl rfl rfl rfl (qG (k:=0) rfl rfl rfl rfl υ'87 rfl ζ'83 rfl ?_))
 refine qP (j:=0) rfl rfl rfl rfl α'83 Tk Az (by rfl) ?_
 refine kG rfl rfl rfl rfl α'47 ζ'47 Tk 0 (us:=[_,_,_]) Az rfl rfl ?_
 have sp_1:=Fe.can_spec pa pc cb x.ck hx.ck k t o
 refine qM rfl rfl rfl rfl rfl rfl Tryz.call61 (sp_1) Ts ?_
 rintro ⟨⟩ -
 try simp only [Ca,Na]
 refine qV (sY rfl rfl rfl rfl ?_)
 refine qR (qW [0,3,11] (e':=[(0,_),(3,_),(11,_)]) rfl ?_)
 refine qQ ?_
 refine c_cond_np rfl (fun hcn=>?_) (fun hcn=>?_)
 ·
  have hnv:¬ vcanF x k t o:=fun h=>hcn h.1
  refine qL (qC (.q 0 (.done)) Kr ?_)
  refine qS rfl rfl rfl rfl (qR (qQ (qJ (qN (vs_fold (b:=b) x (pa:=pa) (pc:=pc) (po:=po) (poc:=poc) (cb:=cb) (m1:=m1) (m2:=m2) (m3:=m3) (m4:=m4) Ts (by rfl) (by rfl) ?_)))))
  refine kD rfl rfl (()) (by rw [decide_eq_false hnv]) (by trivial) ?_
  exact Tf
 have hc:canF x.ck k t o:=hcn
 obtain ⟨l,hth⟩:=th_some hx (can_th hc)
 obtain ⟨h0,h1⟩:=th_rng hx (can_th hc)
 refine qF (qQ (qL (qL (qC (.q 0 (.q 1 (.done))) Kr ?_))))
 refine qG (k:=0) rfl rfl rfl rfl υ'47 rfl ζ'45 rfl ?_
 refine qP (j:=0) rfl rfl rfl rfl α'45 Tk Az (by rfl) ?_
 refine qR (qQ (kC (qL (qL (qC (.q 0 (.q 1 (.done))) Kr ?_)))))
 refine qB rfl rfl rfl rfl rfl (cP _ _ _ _) ?_
 refine qS rfl rfl rfl rfl (qR (qQ ?_))
 refine qD rfl (fun k6=>?_) (fun k6=>?_)
 ·
  refine kB 14 rfl (v':=.bool true) (by rw [decide_eq_true k6]) ?_
  refine qF (qQ (cK rfl ?_))
  refine qL ?_
  have hrel:relK k:=by unfold relK;omega
  refine s_rest_take (F:=F1) (T:=x.th) (S:=[]) t Tk (by simp) hth fun tv htF=>?_
  refine s_vec Tk fun tb ta tc hta=>?_
  subst hta
  refine qC (.q 0 (.q 1 (.q 2 ((.l 3 [] (.q 4 (.q 5 (.done)))))))) Kr ?_
  refine qK rfl rfl rfl rfl (qG (k:=1) rfl rfl rfl rfl υ'47 rfl ζ'3 rfl ?_)
  refine qP (j:=1) rfl rfl rfl rfl α'3 Tk Az (by rfl) ?_
  have sp_2:=clock_spec b m1 (.pointer (some ⟨cb,0,none⟩)) (.slice po x.ck.pa.length poc) (.map (some m2)) (.map (some m3)) (.map (some m4)) F1 tb (ta) (tc) l t Om htF
  refine qM rfl rfl rfl rfl rfl rfl κ'31 (sp_2) Ts ?_
  rintro ⟨⟩ -
  try simp only [Ca,Na]
  refine qV (qB rfl rfl rfl rfl rfl (cB _ _ _ _) ?_)
  refine qS rfl rfl rfl rfl (qR (qW [4] (e':=[(4,_)]) rfl ?_))
  refine qQ (qJ (kM (qN (s_vecF tb ta tc l Ts ?_))))
  refine cN (F:=F1) (T:=x.th) (S:=[]) t F1 x.th Ts (by simp) htF (fun _ _ _=>rfl) hth (fun _ _ _=>rfl) ?_
  refine vs_fold (b:=b) x (pa:=pa) (pc:=pc) (po:=po) (poc:=poc) (cb:=cb) (m1:=m1) (m2:=m2) (m3:=m3) (m4:=m4) Ts (by rfl) (by rfl) ?_
  refine kD rfl rfl (()) (by congr 1;exact decide_eq_decide.2 (by unfold vcanF;rw [thF_eq hth];exact ⟨fun h=>⟨hc,fun _=>h⟩,fun h=>h.2 hrel⟩)) (by trivial) ?_
  exact Tf
 refine kB 14 rfl (v':=.bool false) (by rw [decide_eq_false k6]) ?_
 refine qL (qC (.q 0 (.q 1 (.done))) Kr ?_)
 refine qB rfl rfl rfl rfl rfl (cP _ _ _ _) ?_
 refine qS rfl rfl rfl rfl (qR (qW [0,3,13,14] (e':=[(0,_),(3,_),(13,_),(14,_)]) rfl ?_))
 refine qQ ?_
 refine qD rfl (fun k4=>?_) (fun k4=>?_)
 ·
  refine kB 14 rfl (v':=.bool true) (by rw [decide_eq_true k4]) ?_
  refine qF (qQ (cK rfl ?_))
  refine qL ?_
  have hrel:relK k:=by unfold relK;omega
  refine s_rest_take (F:=F1) (T:=x.th) (S:=[]) t Tk (by simp) hth fun tv htF=>?_
  refine s_vec Tk fun tb ta tc hta=>?_
  subst hta
  refine qC (.q 0 (.q 1 (.q 2 ((.l 3 [] (.q 4 (.q 5 (.done)))))))) Kr ?_
  refine qK rfl rfl rfl rfl (qG (k:=1) rfl rfl rfl rfl υ'47 rfl ζ'3 rfl ?_)
  refine qP (j:=1) rfl rfl rfl rfl α'3 Tk Az (by rfl) ?_
  have sp_3:=clock_spec b m1 (.pointer (some ⟨cb,0,none⟩)) (.slice po x.ck.pa.length poc) (.map (some m2)) (.map (some m3)) (.map (some m4)) F1 tb (ta) (tc) l t Om htF
  refine qM rfl rfl rfl rfl rfl rfl κ'31 (sp_3) Ts ?_
  rintro ⟨⟩ -
  try simp only [Ca,Na]
  refine qV (qB rfl rfl rfl rfl rfl (cB _ _ _ _) ?_)
  refine qS rfl rfl rfl rfl (qR (qW [4] (e':=[(4,_)]) rfl ?_))
  refine qQ (qJ (kM (qN (s_vecF tb ta tc l Ts ?_))))
  refine cN (F:=F1) (T:=x.th) (S:=[]) t F1 x.th Ts (by simp) htF (fun _ _ _=>rfl) hth (fun _ _ _=>rfl) ?_
  refine vs_fold (b:=b) x (pa:=pa) (pc:=pc) (po:=po) (poc:=poc) (cb:=cb) (m1:=m1) (m2:=m2) (m3:=m3) (m4:=m4) Ts (by rfl) (by rfl) ?_
  refine kD rfl rfl (()) (by congr 1;exact decide_eq_decide.2 (by unfold vcanF;rw [thF_eq hth];exact ⟨fun h=>⟨hc,fun _=>h⟩,fun h=>h.2 hrel⟩)) (by trivial) ?_
  exact Tf
 refine kB 14 rfl (v':=.bool false) (by rw [decide_eq_false k4]) ?_
 refine qL (qC (.q 0 (.q 1 (.done))) Kr ?_)
 refine qB rfl rfl rfl rfl rfl (cP _ _ _ _) ?_
 refine qS rfl rfl rfl rfl (qR (qQ ?_))
 refine qD rfl (fun k7=>?_) (fun k7=>?_)
 ·
  refine kB 14 rfl (v':=.bool true) (by rw [decide_eq_true k7]) ?_
  refine qF (qQ (cK rfl ?_))
  refine qL ?_
  have hrel:relK k:=by unfold relK;omega
  refine s_rest_take (F:=F1) (T:=x.th) (S:=[]) t Tk (by simp) hth fun tv htF=>?_
  refine s_vec Tk fun tb ta tc hta=>?_
  subst hta
  refine qC (.q 0 (.q 1 (.q 2 ((.l 3 [] (.q 4 (.q 5 (.done)))))))) Kr ?_
  refine qK rfl rfl rfl rfl (qG (k:=1) rfl rfl rfl rfl υ'47 rfl ζ'3 rfl ?_)
  refine qP (j:=1) rfl rfl rfl rfl α'3 Tk Az (by rfl) ?_
  have sp_4:=clock_spec b m1 (.pointer (some ⟨cb,0,none⟩)) (.slice po x.ck.pa.length poc) (.map (some m2)) (.map (some m3)) (.map (some m4)) F1 tb (ta) (tc) l t Om htF
  refine qM rfl rfl rfl rfl rfl rfl κ'31 (sp_4) Ts ?_
  rintro ⟨⟩ -
  try simp only [Ca,Na]
  refine qV (qB rfl rfl rfl rfl rfl (cB _ _ _ _) ?_)
  refine qS rfl rfl rfl rfl (qR (qW [4] (e':=[(4,_)]) rfl ?_))
  refine qQ (qJ (kM (qN (s_vecF tb ta tc l Ts ?_))))
  refine cN (F:=F1) (T:=x.th) (S:=[]) t F1 x.th Ts (by simp) htF (fun _ _ _=>rfl) hth (fun _ _ _=>rfl) ?_
  refine vs_fold (b:=b) x (pa:=pa) (pc:=pc) (po:=po) (poc:=poc) (cb:=cb) (m1:=m1) (m2:=m2) (m3:=m3) (m4:=m4) Ts (by rfl) (by rfl) ?_
  refine kD rfl rfl (()) (by congr 1;exact decide_eq_decide.2 (by unfold vcanF;rw [thF_eq hth];exact ⟨fun h=>⟨hc,fun _=>h⟩,fun h=>h.2 hrel⟩)) (by trivial) ?_
  exact Tf
 refine kB 14 rfl (v':=.bool false) (by rw [decide_eq_false k7]) ?_
 refine qC (.q 0 (.q 1 (.done))) Kr ?_
 refine qB rfl rfl rfl rfl rfl (cP _ _ _ _) ?_
 refine qS rfl rfl rfl rfl (qR (qQ ?_))
 refine qD rfl (fun k9=>?_) (fun k9=>?_)
 ·
  refine kB 14 rfl (v':=.bool true) (by rw [decide_eq_true k9]) ?_
  refine qL ?_
  have hrel:relK k:=by unfold relK;omega
  refine s_rest_take (F:=F1) (T:=x.th) (S:=[]) t Tk (by simp) hth fun tv htF=>?_
  refine s_vec Tk fun tb ta tc hta=>?_
  subst hta
  refine qC (.q 0 (.q 1 (.q 2 ((.l 3 [] (.q 4 (.q 5 (.done)))))))) Kr ?_
  refine qK rfl rfl rfl rfl (qG (k:=1) rfl rfl rfl rfl υ'47 rfl ζ'3 rfl ?_)
  refine qP (j:=1) rfl rfl rfl rfl α'3 Tk Az (by rfl) ?_
  have sp_5:=clock_spec b m1 (.pointer (some ⟨cb,0,none⟩)) (.slice po x.ck.pa.length poc) (.map (some m2)) (.map (some m3)) (.map (some m4)) F1 tb (ta) (tc) l t Om htF
  refine qM rfl rfl rfl rfl rfl rfl κ'31 (sp_5) Ts ?_
  rintro ⟨⟩ -
  try simp only [Ca,Na]
  refine qV (qB rfl rfl rfl rfl rfl (cB _ _ _ _) ?_)
  refine qS rfl rfl rfl rfl (qR (qW [4] (e':=[(4,_)]) rfl ?_))
  refine qQ (qJ (kM (qN (s_vecF tb ta tc l Ts ?_))))
  refine cN (F:=F1) (T:=x.th) (S:=[]) t F1 x.th Ts (by simp) htF (fun _ _ _=>rfl) hth (fun _ _ _=>rfl) ?_
  refine vs_fold (b:=b) x (pa:=pa) (pc:=pc) (po:=po) (poc:=poc) (cb:=cb) (m1:=m1) (m2:=m2) (m3:=m3) (m4:=m4) Ts (by rfl) (by rfl) ?_
  refine kD rfl rfl (()) (by congr 1;exact decide_eq_decide.2 (by unfold vcanF;rw [thF_eq hth];exact ⟨fun h=>⟨hc,fun _=>h⟩,fun h=>h.2 hrel⟩)) (by trivial) ?_
  exact Tf
 refine kB 14 rfl (v':=.bool false) (by rw [decide_eq_false k9]) ?_
 refine qF (kX (qQ (qL (qC (.q 0 (.done)) Kr ?_))))
 refine qS rfl rfl rfl rfl (qR (qW [4] (e':=[(4,_)]) rfl ?_))
 refine qQ (qJ (vs_fold (b:=b) x (pa:=pa) (pc:=pc) (po:=po) (poc:=poc) (cb:=cb) (m1:=m1) (m2:=m2) (m3:=m3) (m4:=m4) Ts (by rfl) (by rfl) ?_))
 refine kD rfl rfl (()) (by have hv:vcanF x k t o:=⟨hc,fun h=>by unfold relK at h;omega⟩;rw [decide_eq_true hv]) (by trivial) ?_
 exact Tf
theorem depart_spec (pa:Option Addr) (pc:Nat) (po:Option Addr) (poc b:Nat) (x:VS) (hx:VInv x) (k t o:Int) (h2:(stF x.ck t).1=2) (ho:o=(stF x.ck t).2.1):Spec Tryz.prog 69 [.pointer (some ⟨b,0,none⟩),.agg #[.int .i64 k,.int .i64 t,.int .i64 o]] [vsR pa pc po poc b x] (fun (_:Unit)=>.tuple #[]) (fun _=>True) (fun _=>[vsR pa pc po poc b (dpF x t o)]):=by
 refine kQ (n:=58) Tryz.func69 rfl rfl rfl ?_
 intro Γ w0
 simp only [argE,Ca,Na,Zd,Nat.reduceAdd]
 refine qL (qC ((.l 0 [] (.done))) Kr ?_)
 refine sP rfl rfl rfl rfl (us:=[_,_,_]) rfl ?_
 intro b3
 refine qV (qR (qQ (qL ?_)))
 obtain ⟨l,hth⟩:=th_some hx (t:=t) Om
 obtain ⟨h0,h1⟩:=th_rng hx (t:=t) Om
 obtain ⟨p,hrd,hp1⟩:=rd_some hx h2 ho
 have hpc:=hx.rdc _ _ hrd
 have hps:=hx.rds _ _ hrd
 have hrf:rdF x (o,(stF x.ck t).2.2)=p:=by rw [rdF,hrd];rfl
 have htf:=thF_eq hth
 have hlc:=hx.thc _ _ hth
 refine cS (A:=vsR pa pc po poc b x) Tk ?_
 refine vs_open fun cb m1 m2 m3 m4 F1 F2 F3 F4=>?_
 refine kL rfl (.q 0 (.q 1 (.q 2 (.q 3 (.q 4 (.q 5 ((.alt (.l 6 [] (.q 7 (.q 8 (.q 9 ((.l 10 [] ((.l 11 [] (.q 12 (.done)))))))))) (.l 10 [3,5] ((.l 6 [] (.q 7 (.q 8 (.q 9 ((.l 11 [] (.q 12 (.done)))))))))))))))))) Kr ?_
 refine qK rfl rfl rfl rfl (qX rfl rfl rfl rfl (qG (k:=0) rfl rfl rfl rfl υ'87 rfl ζ'83 rfl ?_))
 refine qP (j:=0) rfl rfl rfl rfl α'83 Tk Az (by rfl) ?_
 refine qG (k:=1) rfl rfl rfl rfl υ'47 rfl ζ'3 rfl ?_
 refine qP (j:=1) rfl rfl rfl rfl α'3 Tk Az (by rfl) ?_
 refine r_alt ?_ ?_
 ·
  have sp_1:=Fe.stand_spec pa pc cb x.ck t
  refine qM rfl rfl rfl rfl rfl rfl Tryz.call100 (sp_1) Ts ?_
  rintro ⟨⟩ -
  try simp only [Ca,Na]
  refine qV (qK rfl rfl rfl rfl (kY rfl rfl rfl rfl rfl (kY rfl rfl rfl rfl rfl (sD rfl rfl rfl ω'166 (zs:=[.int .i64 0,.int .i64 0,.int .i64 0]) rfl ?_))))
  intro b4
  refine qV (kH (j:=0) rfl rfl rfl rfl ζ'166 (us:=[_,_,_]) rfl rfl rfl Tk Az (by first | decide | (simp;done) | omega) ?_)
  simp only [setL,List.set]
  refine qV (qS rfl rfl rfl rfl (qR (qW [0,3,4] (e':=[(0,_),(3,_),(4,_)]) rfl ?_)))
  refine qQ (qL (qC (.q 0 (.q 1 (.q 2 (.q 3 (.q 4 ((.l 5 [] ((.l 6 [] (.done)))))))))) Kr ?_))
  refine qG (k:=2) rfl rfl rfl rfl υ'47 rfl ζ'3 rfl ?_
  refine qP (j:=2) rfl rfl rfl rfl α'3 Tk Az (by rfl) ?_
  refine qG (k:=2) rfl rfl rfl rfl υ'166 rfl ζ'3 rfl ?_
  refine qP (j:=2) rfl rfl rfl rfl α'3 Tk Az (by rfl) ?_
  refine cC rfl rfl rfl rfl (vs:=[_,_]) (kV υ'145 ω'145 (ps:=[(0,1),(1,1)]) ⟨rfl,ζ'3,rfl,ζ'3,trivial⟩ rfl) ?_
  refine sD rfl rfl rfl ω'145 (zs:=[.int .i64 0,.int .i64 0]) rfl ?_
  intro b6
  refine qV (kH (j:=0) rfl rfl rfl rfl ζ'145 (us:=[_,_]) rfl rfl rfl Tk Az (by first | decide | (simp;done) | omega) ?_)
  simp only [setL,List.set]
  refine qV (qR (qW [0,3,6] (e':=[(0,_),(3,_),(6,_)]) rfl ?_))
  refine qQ (qL (s_rest_take (F:=F4) (T:=x.rd) (S:=[]) (o,(stF x.ck t).2.2) Tk (by simp) hrd fun rv hrF=>?_))
  refine s_held Tk fun hrs=>?_
  obtain ⟨rva,rvs⟩:=rv
  simp only at hrs
  subst hrs
  refine s_vec Tk fun rb ra rc hra=>?_
  simp only at hra
  subst hra
  refine kL rfl (.q 0 (.q 1 (.q 2 (.q 3 (.q 4 (.q 5 ((.l 6 [3,4,5] ((.l 7 [] (.done))))))))))) Kr ?_
  refine qK rfl rfl rfl rfl (qX rfl rfl rfl rfl (qG (k:=5) rfl rfl rfl rfl υ'87 rfl ζ'85 rfl ?_))
  refine qP (j:=5) rfl rfl rfl rfl α'85 Tk Az (by rfl) ?_
  refine kG rfl rfl rfl rfl α'145 ζ'145 Tk 0 (us:=[_,_]) Az rfl rfl ?_
  refine rQ (ek:=ek2) (ev1:=evH) (F:=F4) (m:=m4) (k:=(o,(stF x.ck t).2.2)) (none,0) rfl rfl rfl rfl rfl υ'85 (keyOK_pair υ'145 rfl rfl rfl rfl υ'3 υ'3 α'3 α'3 Kr) ω'147 Tk ?_
  refine kB 28 rfl (v':=.agg #[.pointer (some ⟨rb,0,none⟩),.int .i64 p.2]) (by rw [hrF];rfl) ?_
  refine sD rfl rfl rfl ω'147 (zs:=[.pointer none,.int .i64 0]) rfl ?_
  intro b7
  refine qH (q:=5) rfl rfl rfl α'85 Tk Az (by rfl) ?_
  refine cX rfl rfl (us:=[_,_]) rfl α'145 ζ'145 Tk 0 Az rfl rfl ?_
  refine ag_lookup1 (ek:=ek2) (ev1:=evH) (F:=F4) (m:=m4) (k:=(o,(stF x.ck t).2.2)) (none,0) rfl rfl (by first | rfl | (rw [hrF];rfl)) rfl rfl υ'85 (keyOK_pair υ'145 rfl rfl rfl rfl υ'3 υ'3 α'3 α'3 Kr) ω'147 Tk ?_
  refine qV (kH (j:=0) rfl rfl rfl rfl ζ'147 (us:=[_,_]) rfl rfl rfl Tk Az (by first | decide | (simp;done) | omega) ?_)
  simp only [setL,List.set]
  refine qV (qR (qW [0,3,6,7] (e':=[(0,_),(3,_),(6,_),(7,_)]) rfl ?_))
  refine qQ (qL (s_rest_take (F:=F1) (T:=x.th) (S:=[]) t Tk (by simp) hth fun tv htF=>?_))
  refine s_vec Tk fun tb ta tc hta=>?_
  subst hta
  refine kL rfl (.q 0 (.q 1 (.q 2 (.q 3 (.q 4 (.q 5 (.q 6 (.q 7 (.q 8 ((.l 9 [3,5,6] ((.l 10 [] (.done)))))))))))))) Kr ?_
  refine qK rfl rfl rfl rfl (qX rfl rfl rfl rfl (qG (k:=2) rfl rfl rfl rfl υ'87 rfl ζ'84 rfl ?_))
  refine qP (j:=2) rfl rfl rfl rfl α'84 Tk Az (by rfl) ?_
  refine qG (k:=1) rfl rfl rfl rfl υ'47 rfl ζ'3 rfl ?_
  refine qP (j:=1) rfl rfl rfl rfl α'3 Tk Az (by rfl) ?_
  refine rQ (ek:=ekZ) (ev1:=evA) (F:=F1) (m:=m1) (k:=t) none rfl rfl rfl rfl rfl υ'84 (cM υ'3) ω'79 Tk ?_
  refine kB 35 rfl (v':=.pointer (some ⟨tb,0,none⟩)) (by rw [htF];rfl) ?_
  refine qG (k:=0) rfl rfl rfl rfl υ'147 rfl ζ'79 rfl ?_
  refine qP (j:=0) rfl rfl rfl rfl α'79 Tk Az (by rfl) ?_
  refine cL rfl rfl rfl rfl (sQ (us:=[_]) υ'195 ζ'79 rfl ω'79 rfl rfl rfl) ?_
  intro b38
  refine qH (q:=2) rfl rfl rfl α'84 Tk Az (by rfl) ?_
  refine qH (q:=1) rfl rfl rfl α'3 Tk Az (by rfl) ?_
  refine ag_lookup1 (ek:=ekZ) (ev1:=evA) (F:=F1) (m:=m1) (k:=t) none rfl rfl (by first | rfl | (rw [htF];rfl)) rfl rfl υ'84 (cM υ'3) ω'79 Tk ?_
  refine qV (s_big_nil (f:=kf) ?_)
  refine cQ (fun _ h=>Bun.fold ((by (repeat ((with_reducible apply Z2);focus (first | (with_reducible (repeat (first | exact Z0 | apply Z1));done) | (repeat (first | exact Z0 | apply Z1)))));exact Z3:Takes _ [cells rb 0 [.slice ra p.1.length rc],own 1 encU ra rc p.1] _) _ h)) ?_
  refine s_big_push (f:=kf) (L:=[]) (x:=(rb,ra,rc,p.1)) Ts ?_
  simp only [Na]
  have sp_2:=Vc.join_spec tb l ta l.length tc Ln hlc [(rb,ra,rc,p.1)] [(rb,ra,rc,p.1)] (fun x hx=>hx) (by intro x hx;simp at hx;subst hx;exact hpc) (some ⟨b38,0,none⟩) 1 1 (cells b38 0 [.pointer (some ⟨rb,0,none⟩)]) (sX sS) rfl (by decide)
  refine qM rfl rfl rfl rfl rfl rfl Tryz.call99 (sp_2) Ts ?_
  rintro ⟨ja,jc⟩ -
  try simp only [Ca,Na]
  refine s_big_take (f:=kf) (L:=[(rb,ra,rc,p.1)]) (i:=0) (x:=(rb,ra,rc,p.1)) Tk rfl ?_
  refine s_bun ?_
  try simp only [Ca,Na,List.eraseIdx_cons_zero]
  rw [show jnA l [(rb,ra,rc,p.1)]=jn l p.1 from rfl]
  try simp only [Ca,Na]
  refine qV (qR (qW [0,6,7] (e':=[(0,_),(6,_),(7,_)]) rfl ?_))
  refine qQ (qL (qL (qC (.q 0 (.q 1 (.q 2 (.q 3 ((.l 4 [] (.done))))))) Kr ?_)))
  refine qG (k:=1) rfl rfl rfl rfl υ'147 rfl ζ'3 rfl ?_
  refine qP (j:=1) rfl rfl rfl rfl α'3 Tk Az (by rfl) ?_
  refine qB rfl rfl rfl rfl rfl (b_sub' _ (by exact kP Om Om)) ?_
  refine qG (k:=1) rfl rfl rfl rfl υ'147 rfl ζ'3 rfl ?_
  refine kH (j:=1) rfl rfl rfl rfl ζ'3 (us:=[_]) rfl rfl rfl Tk Az (by first | decide | (simp;done) | omega) ?_
  simp only [setL,List.set]
  refine qV (qR (qW [0,6,7] (e':=[(0,_),(6,_),(7,_)]) rfl ?_))
  refine qQ (qL (qC (.q 0 (.q 1 (.q 2 (.done)))) Kr ?_))
  refine qG (k:=1) rfl rfl rfl rfl υ'147 rfl ζ'3 rfl ?_
  refine qP (j:=1) rfl rfl rfl rfl α'3 Tk Az (by rfl) ?_
  refine qB rfl rfl rfl rfl rfl (b_leq _ _ _ _) ?_
  refine qR (qQ ?_)
  refine qD rfl (fun hz=>?_) (fun hz=>?_)
  ·
   refine qL (kL rfl (.q 0 (.q 1 (.q 2 (.q 3 (.q 4 ((.l 5 [] (.done)))))))) Kr ?_)
   refine qK rfl rfl rfl rfl (qX rfl rfl rfl rfl (qG (k:=5) rfl rfl rfl rfl υ'87 rfl ζ'85 rfl ?_))
   refine qP (j:=5) rfl rfl rfl rfl α'85 Tk Az (by rfl) ?_
   refine kG rfl rfl rfl rfl α'145 ζ'145 Tk 0 (us:=[_,_]) Az rfl rfl ?_
   refine l_delete (ek:=ek2) (ev1:=evH) (F:=F4) (m:=m4) (k:=(o,(stF x.ck t).2.2)) rfl rfl rfl rfl υ'85 (keyOK_pair υ'145 rfl rfl rfl rfl υ'3 υ'3 α'3 α'3 Kr) Tk ?_
   refine qV (qR (s_rest_none (F:=F4) (T:=x.rd) (S:=[]) (o,(stF x.ck t).2.2) (upd F4 (o,(stF x.ck t).2.2) none) (upd x.rd (o,(stF x.ck t).2.2) none) Tk sL (fun q h _=>sF h) sL (fun q h _=>sF h) ?_))
   refine s_vecF tb ja jc (jn l p.1) Ts ?_
   refine cN (F:=F1) (T:=x.th) (S:=[]) t F1 (upd x.th t (some (jn l p.1))) Ts (by simp) htF (fun _ _ _=>rfl) sL (fun q h _=>sF h) ?_
   refine qW [] (e':=[]) rfl ?_
   refine qQ (qJ (qN (vs_fold (b:=b) (dpF x t o) (pa:=pa) (pc:=pc) (po:=po) (poc:=poc) (cb:=cb) (m1:=m1) (m2:=m2) (m3:=m3) (m4:=m4) Ts (by rw [dpF,hrf,htf,if_pos hz]) (by rfl) ?_)))
   refine ret0 rfl (()) (by first | rfl | (first | rfl | (congr 1;done) | (congr 1 <;> first | rfl | omega | (simp;done) | (simp;omega)))) (by trivial) ?_
   exact Tf
  refine qF (qQ (kL rfl (.q 0 (.q 1 (.q 2 (.q 3 (.q 4 (.q 5 ((.l 6 [] (.done))))))))) Kr ?_))
  refine qK rfl rfl rfl rfl (qX rfl rfl rfl rfl (qG (k:=5) rfl rfl rfl rfl υ'87 rfl ζ'85 rfl ?_))
  refine qP (j:=5) rfl rfl rfl rfl α'85 Tk Az (by rfl) ?_
  refine kG rfl rfl rfl rfl α'145 ζ'145 Tk 0 (us:=[_,_]) Az rfl rfl ?_
  refine kG rfl rfl rfl rfl Tryz.isAgg147 ζ'147 Tk 0 (us:=[_,_]) Az rfl rfl ?_
  refine sM (ek:=ek2) (ev1:=evH) (F:=F4) (m:=m4) (k:=(o,(stF x.ck t).2.2)) (v:=((some ⟨rb,0,none⟩:Option Addr),p.2 - 1)) (by first | exact .inl rfl | exact .inr rfl) rfl rfl rfl rfl υ'85 (keyOK_pair υ'145 rfl rfl rfl rfl υ'3 υ'3 α'3 α'3 Kr) Tk ?_
  refine qV (qR (qW [] (e':=[]) rfl ?_))
  refine sH ?_
  refine s_vecF rb ra rc p.1 Ts ?_
  refine s_heldF (some ⟨rb,0,none⟩,p.2 - 1) (p.1,p.2 - 1) Td rfl ?_
  refine cN (F:=F4) (T:=x.rd) (S:=[]) (o,(stF x.ck t).2.2) (upd F4 (o,(stF x.ck t).2.2) (some (some ⟨rb,0,none⟩,p.2 - 1))) (upd x.rd (o,(stF x.ck t).2.2) (some (p.1,p.2 - 1))) Ts (by simp) sL (fun q h _=>sF h) sL (fun q h _=>sF h) ?_
  refine s_vecF tb ja jc (jn l p.1) Ts ?_
  refine cN (F:=F1) (T:=x.th) (S:=[]) t F1 (upd x.th t (some (jn l p.1))) Ts (by simp) htF (fun _ _ _=>rfl) sL (fun q h _=>sF h) ?_
  refine vs_fold (b:=b) (dpF x t o) (pa:=pa) (pc:=pc) (po:=po) (poc:=poc) (cb:=cb) (m1:=m1) (m2:=m2) (m3:=m3) (m4:=m4) Ts (by rw [dpF,hrf,htf,if_neg hz]) (by rfl) ?_
  refine ret0 rfl (()) (by first | rfl | (first | rfl | (congr 1;done) | (congr 1 <;> first | rfl | omega | (simp;done) | (simp;omega)))) (by trivial) ?_
  exact Tf
 refine sD rfl rfl rfl ω'166 (zs:=[.int .i64 0,.int .i64 0,.int .i64 0]) rfl ?_
 intro b4
 refine qH (q:=0) rfl rfl rfl α'83 Tk Az (by rfl) ?_
 refine qH (q:=1) rfl rfl rfl α'3 Tk Az (by rfl) ?_
 refine qV ?_
 have sp_3:=Fe.stand_spec pa pc cb x.ck t
 refine qM rfl rfl rfl rfl rfl rfl Tryz.call100 (sp_3) Ts ?_
 rintro ⟨⟩ -
 try simp only [Ca,Na]
 refine qV (qK rfl rfl rfl rfl (kY rfl rfl rfl rfl rfl (kY rfl rfl rfl rfl rfl (kH (j:=0) rfl rfl rfl rfl ζ'166 (us:=[_,_,_]) rfl rfl rfl Tk Az (by first | decide | (simp;done) | omega) ?_))))
 simp only [setL,List.set]
 refine qV (qS rfl rfl rfl rfl (qR (qW [0,3,4] (e':=[(0,_),(3,_),(4,_)]) rfl ?_)))
 refine qQ (qL (qC (.q 0 (.q 1 (.q 2 (.q 3 (.q 4 ((.l 5 [] ((.l 6 [] (.done)))))))))) Kr ?_))
 refine qG (k:=2) rfl rfl rfl rfl υ'47 rfl ζ'3 rfl ?_
 refine qP (j:=2) rfl rfl rfl rfl α'3 Tk Az (by rfl) ?_
 refine qG (k:=2) rfl rfl rfl rfl υ'166 rfl ζ'3 rfl ?_
 refine qP (j:=2) rfl rfl rfl rfl α'3 Tk Az (by rfl) ?_
 refine cC rfl rfl rfl rfl (vs:=[_,_]) (kV υ'145 ω'145 (ps:=[(0,1),(1,1)]) ⟨rfl,ζ'3,rfl,ζ'3,trivial⟩ rfl) ?_
 refine sD rfl rfl rfl ω'145 (zs:=[.int .i64 0,.int .i64 0]) rfl ?_
 intro b6
 refine qV (kH (j:=0) rfl rfl rfl rfl ζ'145 (us:=[_,_]) rfl rfl rfl Tk Az (by first | decide | (simp;done) | omega) ?_)
 simp only [setL,List.set]
 refine qV (qR (qW [0,3,6] (e':=[(0,_),(3,_),(6,_)]) rfl ?_))
 refine qQ (qL (s_rest_take (F:=F4) (T:=x.rd) (S:=[]) (o,(stF x.ck t).2.2) Tk (by simp) hrd fun rv hrF=>?_))
 refine s_held Tk fun hrs=>?_
 obtain ⟨rva,rvs⟩:=rv
 simp only at hrs
 subst hrs
 refine s_vec Tk fun rb ra rc hra=>?_
 simp only at hra
 subst hra
 refine kL rfl (.q 0 (.q 1 (.q 2 (.q 3 (.q 4 (.q 5 ((.l 6 [3,4,5] ((.l 7 [] (.done))))))))))) Kr ?_
 refine qK rfl rfl rfl rfl (qX rfl rfl rfl rfl (qG (k:=5) rfl rfl rfl rfl υ'87 rfl ζ'85 rfl ?_))
 refine qP (j:=5) rfl rfl rfl rfl α'85 Tk Az (by rfl) ?_
 refine kG rfl rfl rfl rfl α'145 ζ'145 Tk 0 (us:=[_,_]) Az rfl rfl ?_
 refine rQ (ek:=ek2) (ev1:=evH) (F:=F4) (m:=m4) (k:=(o,(stF x.ck t).2.2)) (none,0) rfl rfl rfl rfl rfl υ'85 (keyOK_pair υ'145 rfl rfl rfl rfl υ'3 υ'3 α'3 α'3 Kr) ω'147 Tk ?_
 refine kB 28 rfl (v':=.agg #[.pointer (some ⟨rb,0,none⟩),.int .i64 p.2]) (by rw [hrF];rfl) ?_
 refine sD rfl rfl rfl ω'147 (zs:=[.pointer none,.int .i64 0]) rfl ?_
 intro b7
 refine qH (q:=5) rfl rfl rfl α'85 Tk Az (by rfl) ?_
 refine cX rfl rfl (us:=[_,_]) rfl α'145 ζ'145 Tk 0 Az rfl rfl ?_
 refine ag_lookup1 (ek:=ek2) (ev1:=evH) (F:=F4) (m:=m4) (k:=(o,(stF x.ck t).2.2)) (none,0) rfl rfl (by first | rfl | (rw [hrF];rfl)) rfl rfl υ'85 (keyOK_pair υ'145 rfl rfl rfl rfl υ'3 υ'3 α'3 α'3 Kr) ω'147 Tk ?_
 refine qV (kH (j:=0) rfl rfl rfl rfl ζ'147 (us:=[_,_]) rfl rfl rfl Tk Az (by first | decide | (simp;done) | omega) ?_)
 simp only [setL,List.set]
 refine qV (qR (qW [0,3,6,7] (e':=[(0,_),(3,_),(6,_),(7,_)]) rfl ?_))
 refine qQ (qL (s_rest_take (F:=F1) (T:=x.th) (S:=[]) t Tk (by simp) hth fun tv htF=>?_))
 refine s_vec Tk fun tb ta tc hta=>?_
 subst hta
 refine kL rfl (.q 0 (.q 1 (.q 2 (.q 3 (.q 4 (.q 5 (.q 6 (.q 7 (.q 8 ((.l 9 [3,5,6] ((.l 10 [] (.done)))))))))))))) Kr ?_
 refine qK rfl rfl rfl rfl (qX rfl rfl rfl rfl (qG (k:=2) rfl rfl rfl rfl υ'87 rfl ζ'84 rfl ?_))
 refine qP (j:=2) rfl rfl rfl rfl α'84 Tk Az (by rfl) ?_
 refine qG (k:=1) rfl rfl rfl rfl υ'47 rfl ζ'3 rfl ?_
 refine qP (j:=1) rfl rfl rfl rfl α'3 Tk Az (by rfl) ?_
 refine rQ (ek:=ekZ) (ev1:=evA) (F:=F1) (m:=m1) (k:=t) none rfl rfl rfl rfl rfl υ'84 (cM υ'3) ω'79 Tk ?_
 refine kB 35 rfl (v':=.pointer (some ⟨tb,0,none⟩)) (by rw [htF];rfl) ?_
 refine qG (k:=0) rfl rfl rfl rfl υ'147 rfl ζ'79 rfl ?_
 refine qP (j:=0) rfl rfl rfl rfl α'79 Tk Az (by rfl) ?_
 refine cL rfl rfl rfl rfl (sQ (us:=[_]) υ'195 ζ'79 rfl ω'79 rfl rfl rfl) ?_
 intro b38
 refine qH (q:=2) rfl rfl rfl α'84 Tk Az (by rfl) ?_
 refine qH (q:=1) rfl rfl rfl α'3 Tk Az (by rfl) ?_
 refine ag_lookup1 (ek:=ekZ) (ev1:=evA) (F:=F1) (m:=m1) (k:=t) none rfl rfl (by first | rfl | (rw [htF];rfl)) rfl rfl υ'84 (cM υ'3) ω'79 Tk ?_
 refine qV (s_big_nil (f:=kf) ?_)
 refine cQ (fun _ h=>Bun.fold ((by (repeat ((with_reducible apply Z2);focus (first | (with_reducible (repeat (first | exact Z0 | apply Z1));done) | (repeat (first | exact Z0 | apply Z1)))));exact Z3:Takes _ [cells rb 0 [.slice ra p.1.length rc],own 1 encU ra rc p.1] _) _ h)) ?_
 refine s_big_push (f:=kf) (L:=[]) (x:=(rb,ra,rc,p.1)) Ts ?_
 simp only [Na]
 have sp_4:=Vc.join_spec tb l ta l.length tc Ln hlc [(rb,ra,rc,p.1)] [(rb,ra,rc,p.1)] (fun x hx=>hx) (by intro x hx;simp at hx;subst hx;exact hpc) (some ⟨b38,0,none⟩) 1 1 (cells b38 0 [.pointer (some ⟨rb,0,none⟩)]) (sX sS) rfl (by decide)
 refine qM rfl rfl rfl rfl rfl rfl Tryz.call99 (sp_4) Ts ?_
 rintro ⟨ja,jc⟩ -
 try simp only [Ca,Na]
 refine s_big_take (f:=kf) (L:=[(rb,ra,rc,p.1)]) (i:=0) (x:=(rb,ra,rc,p.1)) Tk rfl ?_
 refine s_bun ?_
 try simp only [Ca,Na,List.eraseIdx_cons_zero]
 rw [show jnA l [(rb,ra,rc,p.1)]=jn l p.1 from rfl]
 try simp only [Ca,Na]
 refine qV (qR (qW [0,6,7] (e':=[(0,_),(6,_),(7,_)]) rfl ?_))
 refine qQ (qL (qL (qC (.q 0 (.q 1 (.q 2 (.q 3 ((.l 4 [] (.done))))))) Kr ?_)))
 refine qG (k:=1) rfl rfl rfl rfl υ'147 rfl ζ'3 rfl ?_
 refine qP (j:=1) rfl rfl rfl rfl α'3 Tk Az (by rfl) ?_
 refine qB rfl rfl rfl rfl rfl (b_sub' _ (by exact kP Om Om)) ?_
 refine qG (k:=1) rfl rfl rfl rfl υ'147 rfl ζ'3 rfl ?_
 refine kH (j:=1) rfl rfl rfl rfl ζ'3 (us:=[_]) rfl rfl rfl Tk Az (by first | decide | (simp;done) | omega) ?_
 simp only [setL,List.set]
 refine qV (qR (qW [0,6,7] (e':=[(0,_),(6,_),(7,_)]) rfl ?_))
 refine qQ (qL (qC (.q 0 (.q 1 (.q 2 (.done)))) Kr ?_))
 refine qG (k:=1) rfl rfl rfl rfl υ'147 rfl ζ'3 rfl ?_
 refine qP (j:=1) rfl rfl rfl rfl α'3 Tk Az (by rfl) ?_
 refine qB rfl rfl rfl rfl rfl (b_leq _ _ _ _) ?_
 refine qR (qQ ?_)
 refine qD rfl (fun hz=>?_) (fun hz=>?_)
 ·
  refine qL (kL rfl (.q 0 (.q 1 (.q 2 (.q 3 (.q 4 ((.l 5 [] (.done)))))))) Kr ?_)
  refine qK rfl rfl rfl rfl (qX rfl rfl rfl rfl (qG (k:=5) rfl rfl rfl rfl υ'87 rfl ζ'85 rfl ?_))
  refine qP (j:=5) rfl rfl rfl rfl α'85 Tk Az (by rfl) ?_
  refine kG rfl rfl rfl rfl α'145 ζ'145 Tk 0 (us:=[_,_]) Az rfl rfl ?_
  refine l_delete (ek:=ek2) (ev1:=evH) (F:=F4) (m:=m4) (k:=(o,(stF x.ck t).2.2)) rfl rfl rfl rfl υ'85 (keyOK_pair υ'145 rfl rfl rfl rfl υ'3 υ'3 α'3 α'3 Kr) Tk ?_
  refine qV (qR (s_rest_none (F:=F4) (T:=x.rd) (S:=[]) (o,(stF x.ck t).2.2) (upd F4 (o,(stF x.ck t).2.2) none) (upd x.rd (o,(stF x.ck t).2.2) none) Tk sL (fun q h _=>sF h) sL (fun q h _=>sF h) ?_))
  refine s_vecF tb ja jc (jn l p.1) Ts ?_
  refine cN (F:=F1) (T:=x.th) (S:=[]) t F1 (upd x.th t (some (jn l p.1))) Ts (by simp) htF (fun _ _ _=>rfl) sL (fun q h _=>sF h) ?_
  refine qW [] (e':=[]) rfl ?_
  refine qQ (qJ (qN (vs_fold (b:=b) (dpF x t o) (pa:=pa) (pc:=pc) (po:=po) (poc:=poc) (cb:=cb) (m1:=m1) (m2:=m2) (m3:=m3) (m4:=m4) Ts (by rw [dpF,hrf,htf,if_pos hz]) (by rfl) ?_)))
  refine ret0 rfl (()) (by first | rfl | (first | rfl | (congr 1;done) | (congr 1 <;> first | rfl | omega | (simp;done) | (simp;omega)))) (by trivial) ?_
  exact Tf
 refine qF (qQ (kL rfl (.q 0 (.q 1 (.q 2 (.q 3 (.q 4 (.q 5 ((.l 6 [] (.done))))))))) Kr ?_))
 refine qK rfl rfl rfl rfl (qX rfl rfl rfl rfl (qG (k:=5) rfl rfl rfl rfl υ'87 rfl ζ'85 rfl ?_))
 refine qP (j:=5) rfl rfl rfl rfl α'85 Tk Az (by rfl) ?_
 refine kG rfl rfl rfl rfl α'145 ζ'145 Tk 0 (us:=[_,_]) Az rfl rfl ?_
 refine kG rfl rfl rfl rfl Tryz.isAgg147 ζ'147 Tk 0 (us:=[_,_]) Az rfl rfl ?_
 refine sM (ek:=ek2) (ev1:=evH) (F:=F4) (m:=m4) (k:=(o,(stF x.ck t).2.2)) (v:=((some ⟨rb,0,none⟩:Option Addr),p.2 - 1)) (by first | exact .inl rfl | exact .inr rfl) rfl rfl rfl rfl υ'85 (keyOK_pair υ'145 rfl rfl rfl rfl υ'3 υ'3 α'3 α'3 Kr) Tk ?_
 refine qV (qR (qW [] (e':=[]) rfl ?_))
 refine sH ?_
 refine s_vecF rb ra rc p.1 Ts ?_
 refine s_heldF (some ⟨rb,0,none⟩,p.2 - 1) (p.1,p.2 - 1) Td rfl ?_
 refine cN (F:=F4) (T:=x.rd) (S:=[]) (o,(stF x.ck t).2.2) (upd F4 (o,(stF x.ck t).2.2) (some (some ⟨rb,0,none⟩,p.2 - 1))) (upd x.rd (o,(stF x.ck t).2.2) (some (p.1,p.2 - 1))) Ts (by simp) sL (fun q h _=>sF h) sL (fun q h _=>sF h) ?_
 refine s_vecF tb ja jc (jn l p.1) Ts ?_
 refine cN (F:=F1) (T:=x.th) (S:=[]) t F1 (upd x.th t (some (jn l p.1))) Ts (by simp) htF (fun _ _ _=>rfl) sL (fun q h _=>sF h) ?_
 refine vs_fold (b:=b) (dpF x t o) (pa:=pa) (pc:=pc) (po:=po) (poc:=poc) (cb:=cb) (m1:=m1) (m2:=m2) (m3:=m3) (m4:=m4) Ts (by rw [dpF,hrf,htf,if_neg hz]) (by rfl) ?_
 refine ret0 rfl (()) (by first | rfl | (first | rfl | (congr 1;done) | (congr 1 <;> first | rfl | omega | (simp;done) | (simp;omega)))) (by trivial) ?_
 exact Tf
end Go.Ab.Dj
set_option linter.unusedVariables false
set_option linter.unusedSimpArgs false
set_option maxRecDepth 100000
namespace Go.Ab.Dj
open Go Go.Proofs Go.Ab Go.Ab.Fe Go.Ab.Vc
theorem vn5 {x:VS} {k t o:Int} {l:List Int} (h:x.th t=some l) (hk:k=5):vnF x k t o=⟨nxF x.ck k t o,upd x.th t (some (mgF (x.lk o) l)),x.lk,x.vo,x.rd⟩:=by rw [vnF,if_pos hk,thF_eq h]
theorem vn3 {x:VS} {k t o:Int} {l:List Int} (h:x.th t=some l) (hk:k=3):vnF x k t o=⟨nxF x.ck k t o,upd x.th t (some (mgF (x.vo o) l)),x.lk,x.vo,x.rd⟩:=by rw [vnF,if_neg Om,if_pos hk,thF_eq h]
theorem vn8 {x:VS} {k t o:Int} {l:List Int} (h:x.th t=some l) (hk:k=8):vnF x k t o=⟨nxF x.ck k t o,upd x.th t (some (mgF (x.th o) l)),x.lk,x.vo,x.rd⟩:=by rw [vnF,if_neg Om,if_neg Om,if_pos hk,thF_eq h]
theorem vn10 {x:VS} {k t o:Int} {l:List Int} (h:x.th t=some l) (hk:k=10):vnF x k t o=⟨nxF x.ck k t o,(dpF x t o).th,(dpF x t o).lk,(dpF x t o).vo,(dpF x t o).rd⟩:=by rw [vnF,if_neg Om,if_neg Om,if_neg Om,if_pos hk];rfl
theorem vn6 {x:VS} {k t o:Int} {l:List Int} (h:x.th t=some l) (hk:k=6):vnF x k t o=⟨nxF x.ck k t o,upd x.th t (some (icL l t.toNat)),upd x.lk o (some l),x.vo,x.rd⟩:=by rw [vnF,if_neg Om,if_neg Om,if_neg Om,if_neg Om,if_pos hk,thF_eq h]
theorem vn4 {x:VS} {k t o:Int} {l:List Int} (h:x.th t=some l) (hk:k=4):vnF x k t o=⟨nxF x.ck k t o,upd x.th t (some (icL l t.toNat)),x.lk,upd x.vo o (some (mgF (x.vo o) l)),x.rd⟩:=by rw [vnF,if_neg Om,if_neg Om,if_neg Om,if_neg Om,if_neg Om,if_pos hk,thF_eq h]
theorem vn9 {x:VS} {k t o:Int} {l:List Int} (h:x.th t=some l) (hk:k=9):vnF x k t o=⟨nxF x.ck k t o,upd x.th t (some (icL l t.toNat)),x.lk,x.vo,upd x.rd (o,(opF x.ck o).1) (some (mgF ((x.rd (o,(opF x.ck o).1)).map (·.1)) l,x.ck.pa.getD o.toNat 0))⟩:=by rw [vnF,if_neg Om,if_neg Om,if_neg Om,if_neg Om,if_neg Om,if_neg Om,if_pos hk,thF_eq h]
theorem vn7 {x:VS} {k t o:Int} {l:List Int} (h:x.th t=some l) (hk:k=7):vnF x k t o=⟨nxF x.ck k t o,upd (upd x.th o (some (stL l o.toNat 1))) t (some (icL l t.toNat)),x.lk,x.vo,x.rd⟩:=by rw [vnF,if_neg Om,if_neg Om,if_neg Om,if_neg Om,if_neg Om,if_neg Om,if_neg Om,if_pos hk,thF_eq h]
theorem vn0 {x:VS} {k t o:Int} (k5:k≠5) (k3:k≠3) (k8:k≠8) (k10:k≠10) (k6:k≠6) (k4:k≠4) (k9:k≠9) (k7:k≠7):vnF x k t o=⟨nxF x.ck k t o,x.th,x.lk,x.vo,x.rd⟩:=by simp [vnF, *]
theorem nx_pa (x:CS) (k t o:Int):(nxF x k t o).pa=x.pa:=by
  unfold nxF
  split
  · unfold nextF
    repeat (split;· rfl)
    rfl
  · rfl
theorem map_fst_cv {x:VS} (hx:VInv x) {r:Int × Int} {q:List Int} (h:(x.rd r).map (·.1)=some q):CV q:=by
  cases hr:x.rd r with
  | none=>rw [hr] at h;cases h
  | some p=>rw [hr] at h;cases h;exact hx.rdc _ _ hr
theorem join_ne {x:CS} {t:Int} {k:Int} (hc:canF x k t t) (hk:k=8):False:=by
  rcases hc with ⟨h1,h2,-⟩ | ⟨h1,-,h2⟩
  · omega
  · unfold okK at h2
    rcases h2 with h | h | h | h | h | h | h | h <;> omega
theorem next_spec (pa:Option Addr) (pc:Nat) (po:Option Addr) (poc b:Nat) (x:VS) (hx:VInv x) (hn:x.ck.n≤1000000000000000) (pl:List Int) (hpl:x.ck.pa=pl) (k t o:Int) (hvc:vcanF x k t o):Spec Tryz.prog 32 [.pointer (some ⟨b,0,none⟩),.agg #[.int .i64 k,.int .i64 t,.int .i64 o]] [vsR pa pc po poc b x,own 1 encZ pa pc pl,own 1 encZ po poc pl] (fun (_:Unit)=>.tuple #[]) (fun _=>True) (fun _=>[vsR pa pc po poc b (vnF x k t o),own 1 encZ pa pc pl,own 1 encZ po poc pl]):=by
 refine kQ (n:=178) Tryz.func32 rfl rfl rfl ?_
 intro Γ w0
 simp only [argE,Ca,Na,Zd,Nat.reduceAdd]
 refine qL (qC ((.l 0 [] (.done))) Kr ?_)
 refine sP rfl rfl rfl rfl (us:=[_,_,_]) rfl ?_
 intro b3
 refine qV (qR (qQ (qL ?_)))
 obtain ⟨hc,hlt⟩:=hvc
 obtain ⟨l,hth⟩:=th_some hx (can_th hc)
 obtain ⟨h0,h1⟩:=th_rng hx (can_th hc)
 rw [thF_eq hth] at hlt
 have hlc:=hx.thc _ _ hth
 have hlen:=hlc.len
 obtain ⟨o5,o7,o9,o10,o11⟩:=can_obj hx.ck hc
 have hsh:=hx.ck.sh
 refine cS (A:=vsR pa pc po poc b x) Tk ?_
 refine vs_open fun cb m1 m2 m3 m4 F1 F2 F3 F4=>?_
 refine s_rest_take (F:=F1) (T:=x.th) (S:=[]) t Tk (by simp) hth fun tv htF=>?_
 refine s_vec Tk fun tb ta tc hta=>?_
 subst hta
 refine kL rfl (.q 0 (.q 1 (.q 2 (.q 3 (.q 4 (.q 5 (.q 6 (.q 7 (.done))))))))) Kr ?_
 refine qK rfl rfl rfl rfl (qX rfl rfl rfl rfl (qG (k:=2) rfl rfl rfl rfl υ'87 rfl ζ'84 rfl ?_))
 refine qP (j:=2) rfl rfl rfl rfl α'84 Tk Az (by rfl) ?_
 refine qG (k:=1) rfl rfl rfl rfl υ'47 rfl ζ'3 rfl ?_
 refine qP (j:=1) rfl rfl rfl rfl α'3 Tk Az (by rfl) ?_
 refine rQ (ek:=ekZ) (ev1:=evA) (F:=F1) (m:=m1) (k:=t) none rfl rfl rfl rfl rfl υ'84 (cM υ'3) ω'79 Tk ?_
 refine kB 15 rfl (v':=.pointer (some ⟨tb,0,none⟩)) (by rw [htF];rfl) ?_
 refine qS rfl rfl rfl rfl (qR (qW [0,3,4] (e':=[(0,_),(3,_),(4,_)]) rfl ?_))
 refine qQ (qL (qL (qC (.q 0 (.q 1 (.done))) Kr ?_)))
 refine qG (k:=0) rfl rfl rfl rfl υ'47 rfl ζ'45 rfl ?_
 refine qP (j:=0) rfl rfl rfl rfl α'45 Tk Az (by rfl) ?_
 refine qR (qQ (kC (qL (qC (.q 0 (.q 1 (.done))) Kr ?_))))
 refine qB rfl rfl rfl rfl rfl (cP _ _ _ _) ?_
 refine qS rfl rfl rfl rfl (qR (qQ ?_))
 refine qD rfl (fun k5=>?_) (fun k5=>?_)
 ·
  refine s_rest_opt (F:=F2) (T:=x.lk) (S:=[]) o Tk (by simp) fun hso=>?_
  refine kL rfl (.q 0 (.q 1 (.q 2 (.q 3 (.q 4 (.q 5 (.q 6 (.q 7 (.q 8 (.q 9 (.q 10 (.q 11 (.q 12 (.q 13 ((.l 14 [3,5] ((.l 15 [] (.done))))))))))))))))))) Kr ?_
  refine qK rfl rfl rfl rfl (qX rfl rfl rfl rfl (qG (k:=2) rfl rfl rfl rfl υ'87 rfl ζ'84 rfl ?_))
  refine qP (j:=2) rfl rfl rfl rfl α'84 Tk Az (by rfl) ?_
  refine qG (k:=1) rfl rfl rfl rfl υ'47 rfl ζ'3 rfl ?_
  refine qP (j:=1) rfl rfl rfl rfl α'3 Tk Az (by rfl) ?_
  refine qK rfl rfl rfl rfl (qX rfl rfl rfl rfl (qG (k:=3) rfl rfl rfl rfl υ'87 rfl ζ'84 rfl ?_))
  refine qP (j:=3) rfl rfl rfl rfl α'84 Tk Az (by rfl) ?_
  refine qG (k:=2) rfl rfl rfl rfl υ'47 rfl ζ'3 rfl ?_
  refine qP (j:=2) rfl rfl rfl rfl α'3 Tk Az (by rfl) ?_
  refine rQ (ek:=ekZ) (ev1:=evA) (F:=F2) (m:=m2) (k:=o) none rfl rfl rfl rfl rfl υ'84 (cM υ'3) ω'79 Tk ?_
  refine qK rfl rfl rfl rfl ?_
  have sp_1:=merged_spec ((F2 o).getD none) (x.lk o) (hx.lkc _) tb l ta tc hlc
  refine qM rfl rfl rfl rfl rfl rfl κ'68 (sp_1) Ts ?_
  rintro ⟨mb,ma,mc⟩ -
  try simp only [Ca,Na]
  refine qH (q:=2) rfl rfl rfl α'84 Tk Az (by rfl) ?_
  refine qH (q:=1) rfl rfl rfl α'3 Tk Az (by rfl) ?_
  refine qV (sM (ek:=ekZ) (ev1:=evA) (F:=F1) (m:=m1) (k:=t) (v:=(some ⟨mb,0,none⟩:Option Addr)) (by first | exact .inl rfl | exact .inr rfl) rfl rfl rfl rfl υ'84 (cM υ'3) Tk ?_)
  refine qV (qR (s_opt_back (F:=F2) (T:=x.lk) (S:=[]) o Ts (by simp) hso ?_))
  refine s_vecF mb ma mc (mgF (x.lk o) l) Ts ?_
  refine cN (F:=F1) (T:=x.th) (S:=[]) t (upd F1 t (some (some ⟨mb,0,none⟩:Option Addr))) (upd x.th t (some (mgF (x.lk o) l))) Ts (by simp) sL (fun q h _=>sF h) sL (fun q h _=>sF h) ?_
  refine qW [0,3] (e':=[(0,_),(3,_)]) rfl ?_
  refine kX (qQ (kL rfl (.q 0 (.q 1 (.q 2 (.q 3 (.q 4 ((.l 5 [] (.done)))))))) Kr ?_))
  refine qK rfl rfl rfl rfl (qX rfl rfl rfl rfl (qG (k:=0) rfl rfl rfl rfl υ'87 rfl ζ'83 rfl ?_))
  refine qP (j:=0) rfl rfl rfl rfl α'83 Tk Az (by rfl) ?_
  refine kG rfl rfl rfl rfl α'47 ζ'47 Tk 0 (us:=[_,_,_]) Az rfl rfl ?_
  have sp_2:=Fe.next_spec pa pc cb x.ck hx.ck (by first | exact hn | omega) pl (hpl) k t o
  refine qM rfl rfl rfl rfl rfl rfl κ'72 (sp_2) Ts ?_
  rintro ⟨⟩ -
  try simp only [Ca,Na]
  refine qV (qR (qW [] (e':=[]) rfl ?_))
  refine sH ?_
  refine vs_fold (b:=b) (vnF x k t o) (pa:=pa) (pc:=pc) (po:=po) (poc:=poc) (cb:=cb) (m1:=m1) (m2:=m2) (m3:=m3) (m4:=m4) Ts (by exact vn5 hth k5) (by rw [nx_pa]) ?_
  refine ret0 rfl (()) (by first | rfl | (first | rfl | (congr 1;done) | (congr 1 <;> first | rfl | omega | (simp;done) | (simp;omega)))) (by trivial) ?_
  exact Tf
 refine qL (qC (.q 0 (.q 1 (.done))) Kr ?_)
 refine qB rfl rfl rfl rfl rfl (cP _ _ _ _) ?_
 refine qS rfl rfl rfl rfl (qR (qW [0,3,4,17,35] (e':=[(0,_),(3,_),(4,_),(17,_),(35,_)]) rfl ?_))
 refine qQ ?_
 refine qD rfl (fun k3=>?_) (fun k3=>?_)
 ·
  refine s_rest_opt (F:=F3) (T:=x.vo) (S:=[]) o Tk (by simp) fun hso=>?_
  refine kL rfl (.q 0 (.q 1 (.q 2 (.q 3 (.q 4 (.q 5 (.q 6 (.q 7 (.q 8 (.q 9 (.q 10 (.q 11 (.q 12 (.q 13 ((.l 14 [3,5] ((.l 15 [] (.done))))))))))))))))))) Kr ?_
  refine qK rfl rfl rfl rfl (qX rfl rfl rfl rfl (qG (k:=2) rfl rfl rfl rfl υ'87 rfl ζ'84 rfl ?_))
  refine qP (j:=2) rfl rfl rfl rfl α'84 Tk Az (by rfl) ?_
  refine qG (k:=1) rfl rfl rfl rfl υ'47 rfl ζ'3 rfl ?_
  refine qP (j:=1) rfl rfl rfl rfl α'3 Tk Az (by rfl) ?_
  refine qK rfl rfl rfl rfl (qX rfl rfl rfl rfl (qG (k:=4) rfl rfl rfl rfl υ'87 rfl ζ'84 rfl ?_))
  refine qP (j:=4) rfl rfl rfl rfl α'84 Tk Az (by rfl) ?_
  refine qG (k:=2) rfl rfl rfl rfl υ'47 rfl ζ'3 rfl ?_
  refine qP (j:=2) rfl rfl rfl rfl α'3 Tk Az (by rfl) ?_
  refine rQ (ek:=ekZ) (ev1:=evA) (F:=F3) (m:=m3) (k:=o) none rfl rfl rfl rfl rfl υ'84 (cM υ'3) ω'79 Tk ?_
  refine qK rfl rfl rfl rfl ?_
  have sp_3:=merged_spec ((F3 o).getD none) (x.vo o) (hx.voc _) tb l ta tc hlc
  refine qM rfl rfl rfl rfl rfl rfl κ'68 (sp_3) Ts ?_
  rintro ⟨mb,ma,mc⟩ -
  try simp only [Ca,Na]
  refine qH (q:=2) rfl rfl rfl α'84 Tk Az (by rfl) ?_
  refine qH (q:=1) rfl rfl rfl α'3 Tk Az (by rfl) ?_
  refine qV (sM (ek:=ekZ) (ev1:=evA) (F:=F1) (m:=m1) (k:=t) (v:=(some ⟨mb,0,none⟩:Option Addr)) (by first | exact .inl rfl | exact .inr rfl) rfl rfl rfl rfl υ'84 (cM υ'3) Tk ?_)
  refine qV (qR (s_opt_back (F:=F3) (T:=x.vo) (S:=[]) o Ts (by simp) hso ?_))
  refine s_vecF mb ma mc (mgF (x.vo o) l) Ts ?_
  refine cN (F:=F1) (T:=x.th) (S:=[]) t (upd F1 t (some (some ⟨mb,0,none⟩:Option Addr))) (upd x.th t (some (mgF (x.vo o) l))) Ts (by simp) sL (fun q h _=>sF h) sL (fun q h _=>sF h) ?_
  refine qW [0,3] (e':=[(0,_),(3,_)]) rfl ?_
  refine kX (qQ (kL rfl (.q 0 (.q 1 (.q 2 (.q 3 (.q 4 ((.l 5 [] (.done)))))))) Kr ?_))
  refine qK rfl rfl rfl rfl (qX rfl rfl rfl rfl (qG (k:=0) rfl rfl rfl rfl υ'87 rfl ζ'83 rfl ?_))
  refine qP (j:=0) rfl rfl rfl rfl α'83 Tk Az (by rfl) ?_
  refine kG rfl rfl rfl rfl α'47 ζ'47 Tk 0 (us:=[_,_,_]) Az rfl rfl ?_
  have sp_4:=Fe.next_spec pa pc cb x.ck hx.ck (by first | exact hn | omega) pl (hpl) k t o
  refine qM rfl rfl rfl rfl rfl rfl κ'72 (sp_4) Ts ?_
  rintro ⟨⟩ -
  try simp only [Ca,Na]
  refine qV (qR (qW [] (e':=[]) rfl ?_))
  refine sH ?_
  refine vs_fold (b:=b) (vnF x k t o) (pa:=pa) (pc:=pc) (po:=po) (poc:=poc) (cb:=cb) (m1:=m1) (m2:=m2) (m3:=m3) (m4:=m4) Ts (by exact vn3 hth k3) (by rw [nx_pa]) ?_
  refine ret0 rfl (()) (by first | rfl | (first | rfl | (congr 1;done) | (congr 1 <;> first | rfl | omega | (simp;done) | (simp;omega)))) (by trivial) ?_
  exact Tf
 refine qL (qC (.q 0 (.q 1 (.done))) Kr ?_)
 refine qB rfl rfl rfl rfl rfl (cP _ _ _ _) ?_
 refine qS rfl rfl rfl rfl (qR (qQ ?_))
 refine qD rfl (fun k8=>?_) (fun k8=>?_)
 ·
  have hne:o≠t:=by
    intro e;rw [e] at hc
    exact join_ne hc k8
  refine s_rest_opt (F:=F1) (T:=x.th) (S:=[t]) o Tk (by simpa using hne) fun hso=>?_
  refine kL rfl (.q 0 (.q 1 (.q 2 (.q 3 (.q 4 (.q 5 (.q 6 (.q 7 (.q 8 (.q 9 (.q 10 (.q 11 (.q 12 (.q 13 ((.l 14 [3,5] ((.l 15 [] (.done))))))))))))))))))) Kr ?_
  refine qK rfl rfl rfl rfl (qX rfl rfl rfl rfl (qG (k:=2) rfl rfl rfl rfl υ'87 rfl ζ'84 rfl ?_))
  refine qP (j:=2) rfl rfl rfl rfl α'84 Tk Az (by rfl) ?_
  refine qG (k:=1) rfl rfl rfl rfl υ'47 rfl ζ'3 rfl ?_
  refine qP (j:=1) rfl rfl rfl rfl α'3 Tk Az (by rfl) ?_
  refine qK rfl rfl rfl rfl (qX rfl rfl rfl rfl (qG (k:=2) rfl rfl rfl rfl υ'87 rfl ζ'84 rfl ?_))
  refine qP (j:=2) rfl rfl rfl rfl α'84 Tk Az (by rfl) ?_
  refine qG (k:=2) rfl rfl rfl rfl υ'47 rfl ζ'3 rfl ?_
  refine qP (j:=2) rfl rfl rfl rfl α'3 Tk Az (by rfl) ?_
  refine rQ (ek:=ekZ) (ev1:=evA) (F:=F1) (m:=m1) (k:=o) none rfl rfl rfl rfl rfl υ'84 (cM υ'3) ω'79 Tk ?_
  refine qK rfl rfl rfl rfl ?_
  have sp_5:=merged_spec ((F1 o).getD none) (x.th o) (hx.thc _) tb l ta tc hlc
  refine qM rfl rfl rfl rfl rfl rfl κ'68 (sp_5) Ts ?_
  rintro ⟨mb,ma,mc⟩ -
  try simp only [Ca,Na]
  refine qH (q:=2) rfl rfl rfl α'84 Tk Az (by rfl) ?_
  refine qH (q:=1) rfl rfl rfl α'3 Tk Az (by rfl) ?_
  refine qV (sM (ek:=ekZ) (ev1:=evA) (F:=F1) (m:=m1) (k:=t) (v:=(some ⟨mb,0,none⟩:Option Addr)) (by first | exact .inl rfl | exact .inr rfl) rfl rfl rfl rfl υ'84 (cM υ'3) Tk ?_)
  refine qV (qR (s_opt_back (F:=F1) (T:=x.th) (S:=[t]) o Ts (by simpa using hne) hso ?_))
  refine s_vecF mb ma mc (mgF (x.th o) l) Ts ?_
  refine cN (F:=F1) (T:=x.th) (S:=[]) t (upd F1 t (some (some ⟨mb,0,none⟩:Option Addr))) (upd x.th t (some (mgF (x.th o) l))) Ts (by simp) sL (fun q h _=>sF h) sL (fun q h _=>sF h) ?_
  refine qW [0,3] (e':=[(0,_),(3,_)]) rfl ?_
  refine kX (qQ (kL rfl (.q 0 (.q 1 (.q 2 (.q 3 (.q 4 ((.l 5 [] (.done)))))))) Kr ?_))
  refine qK rfl rfl rfl rfl (qX rfl rfl rfl rfl (qG (k:=0) rfl rfl rfl rfl υ'87 rfl ζ'83 rfl ?_))
  refine qP (j:=0) rfl rfl rfl rfl α'83 Tk Az (by rfl) ?_
  refine kG rfl rfl rfl rfl α'47 ζ'47 Tk 0 (us:=[_,_,_]) Az rfl rfl ?_
  have sp_6:=Fe.next_spec pa pc cb x.ck hx.ck (by first | exact hn | omega) pl (hpl) k t o
  refine qM rfl rfl rfl rfl rfl rfl κ'72 (sp_6) Ts ?_
  rintro ⟨⟩ -
  try simp only [Ca,Na]
  refine qV (qR (qW [] (e':=[]) rfl ?_))
  refine sH ?_
  refine vs_fold (b:=b) (vnF x k t o) (pa:=pa) (pc:=pc) (po:=po) (poc:=poc) (cb:=cb) (m1:=m1) (m2:=m2) (m3:=m3) (m4:=m4) Ts (by exact vn8 hth k8) (by rw [nx_pa]) ?_
  refine ret0 rfl (()) (by first | rfl | (first | rfl | (congr 1;done) | (congr 1 <;> first | rfl | omega | (simp;done) | (simp;omega)))) (by trivial) ?_
  exact Tf
 refine qL (qC (.q 0 (.q 1 (.done))) Kr ?_)
 refine qB rfl rfl rfl rfl rfl (cP _ _ _ _) ?_
 refine qS rfl rfl rfl rfl (qR (qW [0,3,4,17,69] (e':=[(0,_),(3,_),(4,_),(17,_),(69,_)]) rfl ?_))
 refine qQ ?_
 refine qD rfl (fun k10=>?_) (fun k10=>?_)
 ·
  refine s_vecF tb ta tc l Ts ?_
  refine cN (F:=F1) (T:=x.th) (S:=[]) t F1 x.th Ts (by simp) htF (fun _ _ _=>rfl) hth (fun _ _ _=>rfl) ?_
  refine vs_fold (b:=b) x (pa:=pa) (pc:=pc) (po:=po) (poc:=poc) (cb:=cb) (m1:=m1) (m2:=m2) (m3:=m3) (m4:=m4) Ts (by rfl) (by rfl) ?_
  refine qC (.q 0 (.q 1 ((.l 2 [] (.done))))) Kr ?_
  refine qK rfl rfl rfl rfl (kG rfl rfl rfl rfl α'47 ζ'47 Tk 0 (us:=[_,_,_]) Az rfl rfl ?_)
  have sp_7:=depart_spec pa pc po poc b x hx k t o (o10 k10).1 (o10 k10).2.2
  refine qM rfl rfl rfl rfl rfl rfl Tryz.call69 (sp_7) Ts ?_
  rintro ⟨⟩ -
  try simp only [Ca,Na]
  refine qV (qR (cS (A:=vsR pa pc po poc b (dpF x t o)) Tk ?_))
  refine vs_open fun cbz m1z m2z m3z m4z F1z F2z F3z F4z=>?_
  try simp only [show (dpF x t o).ck=x.ck from rfl]
  refine qW [0,3] (e':=[(0,_),(3,_)]) rfl ?_
  refine kX (qQ (kL rfl (.q 0 (.q 1 (.q 2 (.q 3 (.q 4 ((.l 5 [] (.done)))))))) Kr ?_))
  refine qK rfl rfl rfl rfl (qX rfl rfl rfl rfl (qG (k:=0) rfl rfl rfl rfl υ'87 rfl ζ'83 rfl ?_))
  refine qP (j:=0) rfl rfl rfl rfl α'83 Tk Az (by rfl) ?_
  refine kG rfl rfl rfl rfl α'47 ζ'47 Tk 0 (us:=[_,_,_]) Az rfl rfl ?_
  have sp_8:=Fe.next_spec pa pc cbz x.ck hx.ck (by first | exact hn | omega) pl (hpl) k t o
  refine qM rfl rfl rfl rfl rfl rfl κ'72 (sp_8) Ts ?_
  rintro ⟨⟩ -
  try simp only [Ca,Na]
  refine qV (qR (qW [] (e':=[]) rfl ?_))
  refine sH ?_
  refine vs_fold (b:=b) (vnF x k t o) (pa:=pa) (pc:=pc) (po:=po) (poc:=poc) (cb:=cbz) (m1:=m1z) (m2:=m2z) (m3:=m3z) (m4:=m4z) Ts (by exact vn10 hth k10) (by rw [nx_pa]) ?_
  refine ret0 rfl (()) (by first | rfl | (first | rfl | (congr 1;done) | (congr 1 <;> first | rfl | omega | (simp;done) | (simp;omega)))) (by trivial) ?_
  exact Tf
 refine qL (qC (.q 0 (.q 1 (.done))) Kr ?_)
 refine qB rfl rfl rfl rfl rfl (cP _ _ _ _) ?_
 refine qS rfl rfl rfl rfl (qR (qQ ?_))
 refine qD rfl (fun k6=>?_) (fun k6=>?_)
 ·
  refine qL (s_rest_opt (F:=F2) (T:=x.lk) (S:=[]) o Tk (by simp) fun hso=>?_)
  refine kL rfl (.q 0 (.q 1 (.q 2 (.q 3 (.q 4 (.q 5 (.q 6 ((.l 7 [3,5] ((.l 8 [] (.done)))))))))))) Kr ?_
  refine qK rfl rfl rfl rfl (qX rfl rfl rfl rfl (qG (k:=3) rfl rfl rfl rfl υ'87 rfl ζ'84 rfl ?_))
  refine qP (j:=3) rfl rfl rfl rfl α'84 Tk Az (by rfl) ?_
  refine qG (k:=2) rfl rfl rfl rfl υ'47 rfl ζ'3 rfl ?_
  refine qP (j:=2) rfl rfl rfl rfl α'3 Tk Az (by rfl) ?_
  refine qK rfl rfl rfl rfl ?_
  have sp_9:=Vc.copy_spec tb l ta l.length tc (by rfl) Om
  refine qM rfl rfl rfl rfl rfl rfl κ'42 (sp_9) Ts ?_
  rintro ⟨ub,ua,uc⟩ -
  try simp only [Ca,Na]
  refine qH (q:=3) rfl rfl rfl α'84 Tk Az (by rfl) ?_
  refine qH (q:=2) rfl rfl rfl α'3 Tk Az (by rfl) ?_
  refine qV (sM (ek:=ekZ) (ev1:=evA) (F:=F2) (m:=m2) (k:=o) (v:=(some ⟨ub,0,none⟩:Option Addr)) (by first | exact .inl rfl | exact .inr rfl) rfl rfl rfl rfl υ'84 (cM υ'3) Tk ?_)
  refine qV (qR (s_vecF ub ua uc l Ts ?_))
  refine cN (F:=F2) (T:=x.lk) (S:=[]) o (upd F2 o (some (some ⟨ub,0,none⟩:Option Addr))) (upd x.lk o (some l)) Ts (by simp) sL (fun q h _=>sF h) sL (fun q h _=>sF h) ?_
  refine qW [0,3,4] (e':=[(0,_),(3,_),(4,_)]) rfl ?_
  refine qQ (qC (.q 0 (.q 1 (.q 2 ((.l 3 [] (.done)))))) Kr ?_)
  refine qK rfl rfl rfl rfl (qG (k:=1) rfl rfl rfl rfl υ'47 rfl ζ'3 rfl ?_)
  refine qP (j:=1) rfl rfl rfl rfl α'3 Tk Az (by rfl) ?_
  have sp_10:=inc_z tb l ta l.length tc Ln hlc t Om Om (by exact hlt (by unfold relK;omega))
  refine qM rfl rfl rfl rfl rfl rfl κ'70 (sp_10) Ts ?_
  rintro ⟨ia,ic⟩ -
  try simp only [Ca,Na]
  refine qV (qR (s_vecF tb ia ic (icL l t.toNat) Ts ?_))
  refine cN (F:=F1) (T:=x.th) (S:=[]) t F1 (upd x.th t (some (icL l t.toNat))) Ts (by simp) htF (fun _ _ _=>rfl) sL (fun q h _=>sF h) ?_
  refine qW [0,3] (e':=[(0,_),(3,_)]) rfl ?_
  refine kX (qQ (kL rfl (.q 0 (.q 1 (.q 2 (.q 3 (.q 4 ((.l 5 [] (.done)))))))) Kr ?_))
  refine qK rfl rfl rfl rfl (qX rfl rfl rfl rfl (qG (k:=0) rfl rfl rfl rfl υ'87 rfl ζ'83 rfl ?_))
  refine qP (j:=0) rfl rfl rfl rfl α'83 Tk Az (by rfl) ?_
  refine kG rfl rfl rfl rfl α'47 ζ'47 Tk 0 (us:=[_,_,_]) Az rfl rfl ?_
  have sp_11:=Fe.next_spec pa pc cb x.ck hx.ck (by first | exact hn | omega) pl (hpl) k t o
  refine qM rfl rfl rfl rfl rfl rfl κ'72 (sp_11) Ts ?_
  rintro ⟨⟩ -
  try simp only [Ca,Na]
  refine qV (qR (qW [] (e':=[]) rfl ?_))
  refine sH ?_
  refine vs_fold (b:=b) (vnF x k t o) (pa:=pa) (pc:=pc) (po:=po) (poc:=poc) (cb:=cb) (m1:=m1) (m2:=m2) (m3:=m3) (m4:=m4) Ts (by exact vn6 hth k6) (by rw [nx_pa]) ?_
  refine ret0 rfl (()) (by first | rfl | (first | rfl | (congr 1;done) | (congr 1 <;> first | rfl | omega | (simp;done) | (simp;omega)))) (by trivial) ?_
  exact Tf
 refine qL (qC (.q 0 (.q 1 (.done))) Kr ?_)
 refine qB rfl rfl rfl rfl rfl (cP _ _ _ _) ?_
 refine qS rfl rfl rfl rfl (qR (qW [0,3,4,17,88] (e':=[(0,_),(3,_),(4,_),(17,_),(88,_)]) rfl ?_))
 refine qQ ?_
 refine qD rfl (fun k4=>?_) (fun k4=>?_)
 ·
  refine qL (s_rest_opt (F:=F3) (T:=x.vo) (S:=[]) o Tk (by simp) fun hso=>?_)
  refine kL rfl (.q 0 (.q 1 (.q 2 (.q 3 (.q 4 (.q 5 (.q 6 (.q 7 (.q 8 (.q 9 (.q 10 (.q 11 (.q 12 (.q 13 ((.l 14 [3,5] ((.l 15 [] (.done))))))))))))))))))) Kr ?_
  refine qK rfl rfl rfl rfl (qX rfl rfl rfl rfl (qG (k:=4) rfl rfl rfl rfl υ'87 rfl ζ'84 rfl ?_))
  refine qP (j:=4) rfl rfl rfl rfl α'84 Tk Az (by rfl) ?_
  refine qG (k:=2) rfl rfl rfl rfl υ'47 rfl ζ'3 rfl ?_
  refine qP (j:=2) rfl rfl rfl rfl α'3 Tk Az (by rfl) ?_
  refine qK rfl rfl rfl rfl (qX rfl rfl rfl rfl (qG (k:=4) rfl rfl rfl rfl υ'87 rfl ζ'84 rfl ?_))
  refine qP (j:=4) rfl rfl rfl rfl α'84 Tk Az (by rfl) ?_
  refine qG (k:=2) rfl rfl rfl rfl υ'47 rfl ζ'3 rfl ?_
  refine qP (j:=2) rfl rfl rfl rfl α'3 Tk Az (by rfl) ?_
  refine rQ (ek:=ekZ) (ev1:=evA) (F:=F3) (m:=m3) (k:=o) none rfl rfl rfl rfl rfl υ'84 (cM υ'3) ω'79 Tk ?_
  refine qK rfl rfl rfl rfl ?_
  have sp_12:=merged_spec ((F3 o).getD none) (x.vo o) (hx.voc _) tb l ta tc hlc
  refine qM rfl rfl rfl rfl rfl rfl κ'68 (sp_12) Ts ?_
  rintro ⟨mb,ma,mc⟩ -
  try simp only [Ca,Na]
  refine qH (q:=4) rfl rfl rfl α'84 Tk Az (by rfl) ?_
  refine qH (q:=2) rfl rfl rfl α'3 Tk Az (by rfl) ?_
  refine qV (sM (ek:=ekZ) (ev1:=evA) (F:=F3) (m:=m3) (k:=o) (v:=(some ⟨mb,0,none⟩:Option Addr)) (by first | exact .inl rfl | exact .inr rfl) rfl rfl rfl rfl υ'84 (cM υ'3) Tk ?_)
  refine qV (qR (s_vecF mb ma mc (mgF (x.vo o) l) Ts ?_))
  refine cN (F:=F3) (T:=x.vo) (S:=[]) o (upd F3 o (some (some ⟨mb,0,none⟩:Option Addr))) (upd x.vo o (some (mgF (x.vo o) l))) Ts (by simp) sL (fun q h _=>sF h) sL (fun q h _=>sF h) ?_
  refine qW [0,3,4] (e':=[(0,_),(3,_),(4,_)]) rfl ?_
  refine qQ (qC (.q 0 (.q 1 (.q 2 ((.l 3 [] (.done)))))) Kr ?_)
  refine qK rfl rfl rfl rfl (qG (k:=1) rfl rfl rfl rfl υ'47 rfl ζ'3 rfl ?_)
  refine qP (j:=1) rfl rfl rfl rfl α'3 Tk Az (by rfl) ?_
  have sp_13:=inc_z tb l ta l.length tc Ln hlc t Om Om (by exact hlt (by unfold relK;omega))
  refine qM rfl rfl rfl rfl rfl rfl κ'70 (sp_13) Ts ?_
  rintro ⟨ia,ic⟩ -
  try simp only [Ca,Na]
  refine qV (qR (s_vecF tb ia ic (icL l t.toNat) Ts ?_))
  refine cN (F:=F1) (T:=x.th) (S:=[]) t F1 (upd x.th t (some (icL l t.toNat))) Ts (by simp) htF (fun _ _ _=>rfl) sL (fun q h _=>sF h) ?_
  refine qW [0,3] (e':=[(0,_),(3,_)]) rfl ?_
  refine kX (qQ (kL rfl (.q 0 (.q 1 (.q 2 (.q 3 (.q 4 ((.l 5 [] (.done)))))))) Kr ?_))
  refine qK rfl rfl rfl rfl (qX rfl rfl rfl rfl (qG (k:=0) rfl rfl rfl rfl υ'87 rfl ζ'83 rfl ?_))
  refine qP (j:=0) rfl rfl rfl rfl α'83 Tk Az (by rfl) ?_
  refine kG rfl rfl rfl rfl α'47 ζ'47 Tk 0 (us:=[_,_,_]) Az rfl rfl ?_
  have sp_14:=Fe.next_spec pa pc cb x.ck hx.ck (by first | exact hn | omega) pl (hpl) k t o
  refine qM rfl rfl rfl rfl rfl rfl κ'72 (sp_14) Ts ?_
  rintro ⟨⟩ -
  try simp only [Ca,Na]
  refine qV (qR (qW [] (e':=[]) rfl ?_))
  refine sH ?_
  refine vs_fold (b:=b) (vnF x k t o) (pa:=pa) (pc:=pc) (po:=po) (poc:=poc) (cb:=cb) (m1:=m1) (m2:=m2) (m3:=m3) (m4:=m4) Ts (by exact vn4 hth k4) (by rw [nx_pa]) ?_
  refine ret0 rfl (()) (by first | rfl | (first | rfl | (congr 1;done) | (congr 1 <;> first | rfl | omega | (simp;done) | (simp;omega)))) (by trivial) ?_
  exact Tf
 refine qL (qC (.q 0 (.q 1 (.done))) Kr ?_)
 refine qB rfl rfl rfl rfl rfl (cP _ _ _ _) ?_
 refine qS rfl rfl rfl rfl (qR (qQ ?_))
 refine qD rfl (fun k9=>?_) (fun k9=>?_)
 ·
  refine qL ?_
  obtain ⟨p0,p1,p2,p3⟩:=o9 k9
  have hyes:0≤o∧o < (x.ck.B.length:Int):=⟨p0,by omega⟩
  refine kL rfl (.q 0 (.q 1 (.q 2 (.q 3 (.q 4 (.q 5 ((.alt (.l 6 [] (.q 7 (.q 8 (.q 9 ((.l 10 [] ((.l 11 [] (.q 12 (.done)))))))))) (.l 10 [3,5] ((.l 6 [] (.q 7 (.q 8 (.q 9 ((.l 11 [] (.q 12 (.done)))))))))))))))))) Kr ?_
  refine qK rfl rfl rfl rfl (qX rfl rfl rfl rfl (qG (k:=0) rfl rfl rfl rfl υ'87 rfl ζ'83 rfl ?_))
  refine qP (j:=0) rfl rfl rfl rfl α'83 Tk Az (by rfl) ?_
  refine qG (k:=2) rfl rfl rfl rfl υ'47 rfl ζ'3 rfl ?_
  refine qP (j:=2) rfl rfl rfl rfl α'3 Tk Az (by rfl) ?_
  refine r_alt ?_ ?_
  ·
   have sp_15:=Fe.round_spec pa pc cb x.ck o
   refine qM rfl rfl rfl rfl rfl rfl Tryz.call71 (sp_15) Ts ?_
   rintro ⟨⟩ -
   try simp only [Ca,Na]
   refine qV (kB 118 rfl (v':=.tuple #[.agg #[.int .i64 ((opF x.ck o).1),.int .i64 ((opF x.ck o).2)],.int .i64 0]) (by rw [if_pos hyes,if_pos hyes]) ?_)
   refine qK rfl rfl rfl rfl (kY rfl rfl rfl rfl rfl (kY rfl rfl rfl rfl rfl (sD rfl rfl rfl ω'141 (zs:=[.int .i64 0,.int .i64 0]) rfl ?_)))
   intro b5
   refine qV (kH (j:=0) rfl rfl rfl rfl ζ'141 (us:=[_,_]) rfl rfl rfl Tk Az (by first | decide | (simp;done) | omega) ?_)
   simp only [setL,List.set]
   refine qV (qS rfl rfl rfl rfl (qR (qW [0,3,4,5] (e':=[(0,_),(3,_),(4,_),(5,_)]) rfl ?_)))
   refine qQ (qL (qC (.q 0 (.q 1 (.q 2 (.q 3 (.q 4 ((.l 5 [] ((.l 6 [] (.done)))))))))) Kr ?_))
   refine qG (k:=2) rfl rfl rfl rfl υ'47 rfl ζ'3 rfl ?_
   refine qP (j:=2) rfl rfl rfl rfl α'3 Tk Az (by rfl) ?_
   refine qG (k:=0) rfl rfl rfl rfl υ'141 rfl ζ'3 rfl ?_
   refine qP (j:=0) rfl rfl rfl rfl α'3 Tk Az (by rfl) ?_
   refine cC rfl rfl rfl rfl (vs:=[_,_]) (kV υ'145 ω'145 (ps:=[(0,1),(1,1)]) ⟨rfl,ζ'3,rfl,ζ'3,trivial⟩ rfl) ?_
   refine sD rfl rfl rfl ω'145 (zs:=[.int .i64 0,.int .i64 0]) rfl ?_
   intro b7
   refine qV (kH (j:=0) rfl rfl rfl rfl ζ'145 (us:=[_,_]) rfl rfl rfl Tk Az (by first | decide | (simp;done) | omega) ?_)
   simp only [setL,List.set]
   refine qV (qR (qW [0,3,4,7] (e':=[(0,_),(3,_),(4,_),(7,_)]) rfl ?_))
   refine qQ (qL ?_)
   obtain ⟨pp,hpp⟩:=cR (l:=pl) (i:=o.toNat) (by rw [← hpl];omega)
   refine s_rest_optH (G:=F4) (U:=x.rd) (S:=[]) (o,(opF x.ck o).1) Tk (by simp) ?_
   refine kL rfl (.q 0 (.q 1 (.q 2 (.q 3 (.q 4 (.q 5 (.q 6 (.q 7 (.q 8 (.q 9 (.q 10 (.q 11 (.q 12 (.q 14 (.q 15 (.q 16 (.q 17 (.q 18 (.q 19 (.q 20 (.q 21 ((.l 13 [3,4,17,19,21] (.q 22 ((.l 23 [] (.done))))))))))))))))))))))))))) Kr ?_
   refine qK rfl rfl rfl rfl (qX rfl rfl rfl rfl (qG (k:=5) rfl rfl rfl rfl υ'87 rfl ζ'85 rfl ?_))
   refine qP (j:=5) rfl rfl rfl rfl α'85 Tk Az (by rfl) ?_
   refine kG rfl rfl rfl rfl α'145 ζ'145 Tk 0 (us:=[_,_]) Az rfl rfl ?_
   refine qK rfl rfl rfl rfl (qX rfl rfl rfl rfl (qG (k:=5) rfl rfl rfl rfl υ'87 rfl ζ'85 rfl ?_))
   refine qP (j:=5) rfl rfl rfl rfl α'85 Tk Az (by rfl) ?_
   refine kG rfl rfl rfl rfl α'145 ζ'145 Tk 0 (us:=[_,_]) Az rfl rfl ?_
   refine rQ (ek:=ek2) (ev1:=evH) (F:=F4) (m:=m4) (k:=(o,(opF x.ck o).1)) (none,0) rfl rfl rfl rfl rfl υ'85 (keyOK_pair υ'145 rfl rfl rfl rfl υ'3 υ'3 α'3 α'3 Kr) ω'147 Tk ?_
   refine q_fld rfl rfl rfl rfl υ'147 rfl α'79 rfl ?_
   refine qK rfl rfl rfl rfl (qK rfl rfl rfl rfl (qX rfl rfl rfl rfl (qG (k:=1) rfl rfl rfl rfl υ'87 rfl ζ'22 rfl ?_)))
   refine qP (j:=1) rfl rfl rfl rfl α'22 Tk Az (by rfl) ?_
   refine qG (k:=2) rfl rfl rfl rfl υ'47 rfl ζ'3 rfl ?_
   refine qP (j:=2) rfl rfl rfl rfl α'3 Tk Az (by rfl) ?_
   refine kF (sz:=0) (k:=o.toNat) (enc:=encZ) (xs:=pl) rfl rfl rfl rfl rfl υ'22 ζ'3 hpp Om Om Tk ?_
   intro ib146 io146 ha146 hl146 hc146
   refine kS (v:=(.int .i64 pp)) (j:=0) (k':=o.toNat) (enc:=encZ) (off:=io146) rfl rfl rfl rfl α'3 ha146 encZ_len hpp Tk (by first | rfl | exact (Ad _).symm | omega) (by rfl) ?_
   have sp_16:=merged_spec (((F4 (o,(opF x.ck o).1)).getD (none,0)).1) ((x.rd (o,(opF x.ck o).1)).map (·.1)) (fun _=>map_fst_cv hx) tb l ta tc hlc
   refine qM rfl rfl rfl rfl rfl rfl κ'68 (sp_16) Ts ?_
   rintro ⟨mb,ma,mc⟩ -
   try simp only [Ca,Na]
   refine qH (q:=5) rfl rfl rfl α'85 Tk Az (by rfl) ?_
   refine cX rfl rfl (us:=[_,_]) rfl α'145 ζ'145 Tk 0 Az rfl rfl ?_
   refine qH (q:=1) rfl rfl rfl α'22 Tk Az (by rfl) ?_
   refine qH (q:=2) rfl rfl rfl α'3 Tk Az (by rfl) ?_
   refine sJ (v:=(.int .i64 pp)) (j:=0) (k':=o.toNat) (enc:=encZ) (off:=io146) rfl rfl rfl α'3 ha146 encZ_len hpp Tk (by first | rfl | exact (Ad _).symm | omega) (by rfl) ?_
   refine qV (cC rfl rfl rfl rfl (vs:=[_,_]) (kV υ'147 ω'147 (ps:=[(0,1),(1,1)]) ⟨rfl,ζ'79,rfl,ζ'3,trivial⟩ rfl) ?_)
   refine sM (ek:=ek2) (ev1:=evH) (F:=F4) (m:=m4) (k:=(o,(opF x.ck o).1)) (v:=((some ⟨mb,0,none⟩:Option Addr),pp)) (by first | exact .inl rfl | exact .inr rfl) rfl rfl rfl rfl υ'85 (keyOK_pair υ'145 rfl rfl rfl rfl υ'3 υ'3 α'3 α'3 Kr) Tk ?_
   refine qV (qR (s_vecF mb ma mc (mgF ((x.rd (o,(opF x.ck o).1)).map (·.1)) l) Ts ?_))
   refine s_heldF (some ⟨mb,0,none⟩,pp) (mgF ((x.rd (o,(opF x.ck o).1)).map (·.1)) l,pp) Td rfl ?_
   refine cN (F:=F4) (T:=x.rd) (S:=[]) (o,(opF x.ck o).1) (upd F4 (o,(opF x.ck o).1) (some (some ⟨mb,0,none⟩,pp))) (upd x.rd (o,(opF x.ck o).1) (some (mgF ((x.rd (o,(opF x.ck o).1)).map (·.1)) l,pp))) Ts (by simp) sL (fun q h _=>sF h) sL (fun q h _=>sF h) ?_
   refine qW [0,3,4] (e':=[(0,_),(3,_),(4,_)]) rfl ?_
   refine qQ (qC (.q 0 (.q 1 (.q 2 ((.l 3 [] (.done)))))) Kr ?_)
   refine qK rfl rfl rfl rfl (qG (k:=1) rfl rfl rfl rfl υ'47 rfl ζ'3 rfl ?_)
   refine qP (j:=1) rfl rfl rfl rfl α'3 Tk Az (by rfl) ?_
   have sp_17:=inc_z tb l ta l.length tc Ln hlc t Om Om (by exact hlt (by unfold relK;omega))
   refine qM rfl rfl rfl rfl rfl rfl κ'70 (sp_17) Ts ?_
   rintro ⟨ia,ic⟩ -
   try simp only [Ca,Na]
   refine qV (qR (s_vecF tb ia ic (icL l t.toNat) Ts ?_))
   refine cN (F:=F1) (T:=x.th) (S:=[]) t F1 (upd x.th t (some (icL l t.toNat))) Ts (by simp) htF (fun _ _ _=>rfl) sL (fun q h _=>sF h) ?_
   refine qW [0,3] (e':=[(0,_),(3,_)]) rfl ?_
   refine kX (qQ (kL rfl (.q 0 (.q 1 (.q 2 (.q 3 (.q 4 ((.l 5 [] (.done)))))))) Kr ?_))
   refine qK rfl rfl rfl rfl (qX rfl rfl rfl rfl (qG (k:=0) rfl rfl rfl rfl υ'87 rfl ζ'83 rfl ?_))
   refine qP (j:=0) rfl rfl rfl rfl α'83 Tk Az (by rfl) ?_
   refine kG rfl rfl rfl rfl α'47 ζ'47 Tk 0 (us:=[_,_,_]) Az rfl rfl ?_
   have sp_18:=Fe.next_spec pa pc cb x.ck hx.ck (by first | exact hn | omega) pl (hpl) k t o
   refine qM rfl rfl rfl rfl rfl rfl κ'72 (sp_18) Ts ?_
   rintro ⟨⟩ -
   try simp only [Ca,Na]
   refine qV (qR (qW [] (e':=[]) rfl ?_))
   refine sH ?_
   refine vs_fold (b:=b) (vnF x k t o) (pa:=pa) (pc:=pc) (po:=po) (poc:=poc) (cb:=cb) (m1:=m1) (m2:=m2) (m3:=m3) (m4:=m4) Ts (by rw [vn9 hth k9,show x.ck.pa.getD o.toNat 0=pp from by rw [hpl];exact getD_some hpp]) (by rw [nx_pa]) ?_
   refine ret0 rfl (()) (by first | rfl | (first | rfl | (congr 1;done) | (congr 1 <;> first | rfl | omega | (simp;done) | (simp;omega)))) (by trivial) ?_
   exact Tf
  refine sD rfl rfl rfl ω'141 (zs:=[.int .i64 0,.int .i64 0]) rfl ?_
  intro b5
  refine qH (q:=0) rfl rfl rfl α'83 Tk Az (by rfl) ?_
  refine qH (q:=2) rfl rfl rfl α'3 Tk Az (by rfl) ?_
  refine qV ?_
  have sp_19:=Fe.round_spec pa pc cb x.ck o
  refine qM rfl rfl rfl rfl rfl rfl Tryz.call71 (sp_19) Ts ?_
  rintro ⟨⟩ -
  try simp only [Ca,Na]
  refine qV (kB 118 rfl (v':=.tuple #[.agg #[.int .i64 ((opF x.ck o).1),.int .i64 ((opF x.ck o).2)],.int .i64 0]) (by rw [if_pos hyes,if_pos hyes]) ?_)
  refine qK rfl rfl rfl rfl (kY rfl rfl rfl rfl rfl (kY rfl rfl rfl rfl rfl (kH (j:=0) rfl rfl rfl rfl ζ'141 (us:=[_,_]) rfl rfl rfl Tk Az (by first | decide | (simp;done) | omega) ?_)))
  simp only [setL,List.set]
  refine qV (qS rfl rfl rfl rfl (qR (qW [0,3,4,5] (e':=[(0,_),(3,_),(4,_),(5,_)]) rfl ?_)))
  refine qQ (qL (qC (.q 0 (.q 1 (.q 2 (.q 3 (.q 4 ((.l 5 [] ((.l 6 [] (.done)))))))))) Kr ?_))
  refine qG (k:=2) rfl rfl rfl rfl υ'47 rfl ζ'3 rfl ?_
  refine qP (j:=2) rfl rfl rfl rfl α'3 Tk Az (by rfl) ?_
  refine qG (k:=0) rfl rfl rfl rfl υ'141 rfl ζ'3 rfl ?_
  refine qP (j:=0) rfl rfl rfl rfl α'3 Tk Az (by rfl) ?_
  refine cC rfl rfl rfl rfl (vs:=[_,_]) (kV υ'145 ω'145 (ps:=[(0,1),(1,1)]) ⟨rfl,ζ'3,rfl,ζ'3,trivial⟩ rfl) ?_
  refine sD rfl rfl rfl ω'145 (zs:=[.int .i64 0,.int .i64 0]) rfl ?_
  intro b7
  refine qV (kH (j:=0) rfl rfl rfl rfl ζ'145 (us:=[_,_]) rfl rfl rfl Tk Az (by first | decide | (simp;done) | omega) ?_)
  simp only [setL,List.set]
  refine qV (qR (qW [0,3,4,7] (e':=[(0,_),(3,_),(4,_),(7,_)]) rfl ?_))
  refine qQ (qL ?_)
  obtain ⟨pp,hpp⟩:=cR (l:=pl) (i:=o.toNat) (by rw [← hpl];omega)
  refine s_rest_optH (G:=F4) (U:=x.rd) (S:=[]) (o,(opF x.ck o).1) Tk (by simp) ?_
  refine kL rfl (.q 0 (.q 1 (.q 2 (.q 3 (.q 4 (.q 5 (.q 6 (.q 7 (.q 8 (.q 9 (.q 10 (.q 11 (.q 12 (.q 14 (.q 15 (.q 16 (.q 17 (.q 18 (.q 19 (.q 20 (.q 21 ((.l 13 [3,4,17,19,21] (.q 22 ((.l 23 [] (.done))))))))))))))))))))))))))) Kr ?_
  refine qK rfl rfl rfl rfl (qX rfl rfl rfl rfl (qG (k:=5) rfl rfl rfl rfl υ'87 rfl ζ'85 rfl ?_))
  refine qP (j:=5) rfl rfl rfl rfl α'85 Tk Az (by rfl) ?_
  refine kG rfl rfl rfl rfl α'145 ζ'145 Tk 0 (us:=[_,_]) Az rfl rfl ?_
  refine qK rfl rfl rfl rfl (qX rfl rfl rfl rfl (qG (k:=5) rfl rfl rfl rfl υ'87 rfl ζ'85 rfl ?_))
  refine qP (j:=5) rfl rfl rfl rfl α'85 Tk Az (by rfl) ?_
  refine kG rfl rfl rfl rfl α'145 ζ'145 Tk 0 (us:=[_,_]) Az rfl rfl ?_
  refine rQ (ek:=ek2) (ev1:=evH) (F:=F4) (m:=m4) (k:=(o,(opF x.ck o).1)) (none,0) rfl rfl rfl rfl rfl υ'85 (keyOK_pair υ'145 rfl rfl rfl rfl υ'3 υ'3 α'3 α'3 Kr) ω'147 Tk ?_
  refine q_fld rfl rfl rfl rfl υ'147 rfl α'79 rfl ?_
  refine qK rfl rfl rfl rfl (qK rfl rfl rfl rfl (qX rfl rfl rfl rfl (qG (k:=1) rfl rfl rfl rfl υ'87 rfl ζ'22 rfl ?_)))
  refine qP (j:=1) rfl rfl rfl rfl α'22 Tk Az (by rfl) ?_
  refine qG (k:=2) rfl rfl rfl rfl υ'47 rfl ζ'3 rfl ?_
  refine qP (j:=2) rfl rfl rfl rfl α'3 Tk Az (by rfl) ?_
  refine kF (sz:=0) (k:=o.toNat) (enc:=encZ) (xs:=pl) rfl rfl rfl rfl rfl υ'22 ζ'3 hpp Om Om Tk ?_
  intro ib146 io146 ha146 hl146 hc146
  refine kS (v:=(.int .i64 pp)) (j:=0) (k':=o.toNat) (enc:=encZ) (off:=io146) rfl rfl rfl rfl α'3 ha146 encZ_len hpp Tk (by first | rfl | exact (Ad _).symm | omega) (by rfl) ?_
  have sp_20:=merged_spec (((F4 (o,(opF x.ck o).1)).getD (none,0)).1) ((x.rd (o,(opF x.ck o).1)).map (·.1)) (fun _=>map_fst_cv hx) tb l ta tc hlc
  refine qM rfl rfl rfl rfl rfl rfl κ'68 (sp_20) Ts ?_
  rintro ⟨mb,ma,mc⟩ -
  try simp only [Ca,Na]
  refine qH (q:=5) rfl rfl rfl α'85 Tk Az (by rfl) ?_
  refine cX rfl rfl (us:=[_,_]) rfl α'145 ζ'145 Tk 0 Az rfl rfl ?_
  refine qH (q:=1) rfl rfl rfl α'22 Tk Az (by rfl) ?_
  refine qH (q:=2) rfl rfl rfl α'3 Tk Az (by rfl) ?_
  refine sJ (v:=(.int .i64 pp)) (j:=0) (k':=o.toNat) (enc:=encZ) (off:=io146) rfl rfl rfl α'3 ha146 encZ_len hpp Tk (by first | rfl | exact (Ad _).symm | omega) (by rfl) ?_
  refine qV (cC rfl rfl rfl rfl (vs:=[_,_]) (kV υ'147 ω'147 (ps:=[(0,1),(1,1)]) ⟨rfl,ζ'79,rfl,ζ'3,trivial⟩ rfl) ?_)
  refine sM (ek:=ek2) (ev1:=evH) (F:=F4) (m:=m4) (k:=(o,(opF x.ck o).1)) (v:=((some ⟨mb,0,none⟩:Option Addr),pp)) (by first | exact .inl rfl | exact .inr rfl) rfl rfl rfl rfl υ'85 (keyOK_pair υ'145 rfl rfl rfl rfl υ'3 υ'3 α'3 α'3 Kr) Tk ?_
  refine qV (qR (s_vecF mb ma mc (mgF ((x.rd (o,(opF x.ck o).1)).map (·.1)) l) Ts ?_))
  refine s_heldF (some ⟨mb,0,none⟩,pp) (mgF ((x.rd (o,(opF x.ck o).1)).map (·.1)) l,pp) Td rfl ?_
  refine cN (F:=F4) (T:=x.rd) (S:=[]) (o,(opF x.ck o).1) (upd F4 (o,(opF x.ck o).1) (some (some ⟨mb,0,none⟩,pp))) (upd x.rd (o,(opF x.ck o).1) (some (mgF ((x.rd (o,(opF x.ck o).1)).map (·.1)) l,pp))) Ts (by simp) sL (fun q h _=>sF h) sL (fun q h _=>sF h) ?_
  refine qW [0,3,4] (e':=[(0,_),(3,_),(4,_)]) rfl ?_
  refine qQ (qC (.q 0 (.q 1 (.q 2 ((.l 3 [] (.done)))))) Kr ?_)
  refine qK rfl rfl rfl rfl (qG (k:=1) rfl rfl rfl rfl υ'47 rfl ζ'3 rfl ?_)
  refine qP (j:=1) rfl rfl rfl rfl α'3 Tk Az (by rfl) ?_
  have sp_21:=inc_z tb l ta l.length tc Ln hlc t Om Om (by exact hlt (by unfold relK;omega))
  refine qM rfl rfl rfl rfl rfl rfl κ'70 (sp_21) Ts ?_
  rintro ⟨ia,ic⟩ -
  try simp only [Ca,Na]
  refine qV (qR (s_vecF tb ia ic (icL l t.toNat) Ts ?_))
  refine cN (F:=F1) (T:=x.th) (S:=[]) t F1 (upd x.th t (some (icL l t.toNat))) Ts (by simp) htF (fun _ _ _=>rfl) sL (fun q h _=>sF h) ?_
  refine qW [0,3] (e':=[(0,_),(3,_)]) rfl ?_
  refine kX (qQ (kL rfl (.q 0 (.q 1 (.q 2 (.q 3 (.q 4 ((.l 5 [] (.done)))))))) Kr ?_))
  refine qK rfl rfl rfl rfl (qX rfl rfl rfl rfl (qG (k:=0) rfl rfl rfl rfl υ'87 rfl ζ'83 rfl ?_))
  refine qP (j:=0) rfl rfl rfl rfl α'83 Tk Az (by rfl) ?_
  refine kG rfl rfl rfl rfl α'47 ζ'47 Tk 0 (us:=[_,_,_]) Az rfl rfl ?_
  have sp_22:=Fe.next_spec pa pc cb x.ck hx.ck (by first | exact hn | omega) pl (hpl) k t o
  refine qM rfl rfl rfl rfl rfl rfl κ'72 (sp_22) Ts ?_
  rintro ⟨⟩ -
  try simp only [Ca,Na]
  refine qV (qR (qW [] (e':=[]) rfl ?_))
  refine sH ?_
  refine vs_fold (b:=b) (vnF x k t o) (pa:=pa) (pc:=pc) (po:=po) (poc:=poc) (cb:=cb) (m1:=m1) (m2:=m2) (m3:=m3) (m4:=m4) Ts (by rw [vn9 hth k9,show x.ck.pa.getD o.toNat 0=pp from by rw [hpl];exact getD_some hpp]) (by rw [nx_pa]) ?_
  refine ret0 rfl (()) (by first | rfl | (first | rfl | (congr 1;done) | (congr 1 <;> first | rfl | omega | (simp;done) | (simp;omega)))) (by trivial) ?_
  exact Tf
 refine qL (qC (.q 0 (.q 1 (.done))) Kr ?_)
 refine qB rfl rfl rfl rfl rfl (cP _ _ _ _) ?_
 refine qS rfl rfl rfl rfl (qR (qW [0,3,4,153] (e':=[(0,_),(3,_),(4,_),(153,_)]) rfl ?_))
 refine qQ ?_
 refine qD rfl (fun k7=>?_) (fun k7=>?_)
 ·
  refine qL ?_
  obtain ⟨q0,q1,q2⟩:=o7 k7
  have htl:=hx.ck.tl
  have hsth:=hsh.th
  refine qC (.q 0 ((.l 1 [] (.q 2 (.done))))) Kr ?_
  refine qK rfl rfl rfl rfl ?_
  have sp_23:=Vc.copy_spec tb l ta l.length tc (by rfl) Om
  refine qM rfl rfl rfl rfl rfl rfl κ'42 (sp_23) Ts ?_
  rintro ⟨ub,ua,uc⟩ -
  try simp only [Ca,Na]
  refine qV (qS rfl rfl rfl rfl (qR (qQ (qL (qC (.q 0 (.q 1 (.q 2 ((.l 3 [] (.done)))))) Kr ?_)))))
  refine qK rfl rfl rfl rfl (qG (k:=2) rfl rfl rfl rfl υ'47 rfl ζ'3 rfl ?_)
  refine qP (j:=2) rfl rfl rfl rfl α'3 Tk Az (by rfl) ?_
  have sp_24:=set_z ub l ua l.length uc Ln hlc o Om Om 1 (by decide) (by decide)
  refine qM rfl rfl rfl rfl rfl rfl κ'30 (sp_24) Ts ?_
  rintro ⟨sa,sc⟩ -
  try simp only [Ca,Na]
  refine qV (qR (qW [0,3,4,8] (e':=[(0,_),(3,_),(4,_),(8,_)]) rfl ?_))
  refine qQ (qL ?_)
  have hne:o≠t:=by intro e;rw [e] at q2;exact can_th hc q2
  refine s_rest_opt (F:=F1) (T:=x.th) (S:=[t]) o Tk (by simpa using hne) fun hso=>?_
  refine kL rfl (.q 0 (.q 1 (.q 2 (.q 3 (.q 4 (.q 5 (.q 6 ((.l 7 [] (.done)))))))))) Kr ?_
  refine qK rfl rfl rfl rfl (qX rfl rfl rfl rfl (qG (k:=2) rfl rfl rfl rfl υ'87 rfl ζ'84 rfl ?_))
  refine qP (j:=2) rfl rfl rfl rfl α'84 Tk Az (by rfl) ?_
  refine qG (k:=2) rfl rfl rfl rfl υ'47 rfl ζ'3 rfl ?_
  refine qP (j:=2) rfl rfl rfl rfl α'3 Tk Az (by rfl) ?_
  refine qK rfl rfl rfl rfl (sM (ek:=ekZ) (ev1:=evA) (F:=F1) (m:=m1) (k:=o) (v:=(some ⟨ub,0,none⟩:Option Addr)) (by first | exact .inl rfl | exact .inr rfl) rfl rfl rfl rfl υ'84 (cM υ'3) Tk ?_)
  refine qV (qR (s_vecF ub sa sc (stL l o.toNat 1) Ts ?_))
  refine cN (F:=F1) (T:=x.th) (S:=[t]) o (upd F1 o (some (some ⟨ub,0,none⟩:Option Addr))) (upd x.th o (some (stL l o.toNat 1))) Ts (by simpa using hne) sL (fun q h _=>sF h) sL (fun q h _=>sF h) ?_
  refine qW [0,3,4] (e':=[(0,_),(3,_),(4,_)]) rfl ?_
  refine qQ (qC (.q 0 (.q 1 (.q 2 ((.l 3 [] (.done)))))) Kr ?_)
  refine qK rfl rfl rfl rfl (qG (k:=1) rfl rfl rfl rfl υ'47 rfl ζ'3 rfl ?_)
  refine qP (j:=1) rfl rfl rfl rfl α'3 Tk Az (by rfl) ?_
  have sp_25:=inc_z tb l ta l.length tc Ln hlc t Om Om (by exact hlt (by unfold relK;omega))
  refine qM rfl rfl rfl rfl rfl rfl κ'70 (sp_25) Ts ?_
  rintro ⟨ia,ic⟩ -
  try simp only [Ca,Na]
  refine qV (qR (s_vecF tb ia ic (icL l t.toNat) Ts ?_))
  refine cN (F:=(upd F1 o (some (some ⟨ub,0,none⟩:Option Addr)))) (T:=(upd x.th o (some (stL l o.toNat 1)))) (S:=[]) t (upd F1 o (some (some ⟨ub,0,none⟩:Option Addr))) (upd (upd x.th o (some (stL l o.toNat 1))) t (some (icL l t.toNat))) Ts (by simp) ((sF (Ne.symm hne)).trans htF) (fun _ _ _=>rfl) sL (fun q h _=>sF h) ?_
  refine qW [0,3] (e':=[(0,_),(3,_)]) rfl ?_
  refine kX (qQ (kL rfl (.q 0 (.q 1 (.q 2 (.q 3 (.q 4 ((.l 5 [] (.done)))))))) Kr ?_))
  refine qK rfl rfl rfl rfl (qX rfl rfl rfl rfl (qG (k:=0) rfl rfl rfl rfl υ'87 rfl ζ'83 rfl ?_))
  refine qP (j:=0) rfl rfl rfl rfl α'83 Tk Az (by rfl) ?_
  refine kG rfl rfl rfl rfl α'47 ζ'47 Tk 0 (us:=[_,_,_]) Az rfl rfl ?_
  have sp_26:=Fe.next_spec pa pc cb x.ck hx.ck (by first | exact hn | omega) pl (hpl) k t o
  refine qM rfl rfl rfl rfl rfl rfl κ'72 (sp_26) Ts ?_
  rintro ⟨⟩ -
  try simp only [Ca,Na]
  refine qV (qR (qW [] (e':=[]) rfl ?_))
  refine sH ?_
  refine vs_fold (b:=b) (vnF x k t o) (pa:=pa) (pc:=pc) (po:=po) (poc:=poc) (cb:=cb) (m1:=m1) (m2:=m2) (m3:=m3) (m4:=m4) Ts (by exact vn7 hth k7) (by rw [nx_pa]) ?_
  refine ret0 rfl (()) (by first | rfl | (first | rfl | (congr 1;done) | (congr 1 <;> first | rfl | omega | (simp;done) | (simp;omega)))) (by trivial) ?_
  exact Tf
 refine qF (kX (qQ (s_vecF tb ta tc l Ts ?_)))
 refine cN (F:=F1) (T:=x.th) (S:=[]) t F1 x.th Ts (by simp) htF (fun _ _ _=>rfl) hth (fun _ _ _=>rfl) ?_
 refine kL rfl (.q 0 (.q 1 (.q 2 (.q 3 (.q 4 ((.l 5 [] (.done)))))))) Kr ?_
 refine qK rfl rfl rfl rfl (qX rfl rfl rfl rfl (qG (k:=0) rfl rfl rfl rfl υ'87 rfl ζ'83 rfl ?_))
 refine qP (j:=0) rfl rfl rfl rfl α'83 Tk Az (by rfl) ?_
 refine kG rfl rfl rfl rfl α'47 ζ'47 Tk 0 (us:=[_,_,_]) Az rfl rfl ?_
 have sp_27:=Fe.next_spec pa pc cb x.ck hx.ck (by first | exact hn | omega) pl (hpl) k t o
 refine qM rfl rfl rfl rfl rfl rfl κ'72 (sp_27) Ts ?_
 rintro ⟨⟩ -
 try simp only [Ca,Na]
 refine qV (qR (qW [] (e':=[]) rfl ?_))
 refine sH ?_
 refine vs_fold (b:=b) (vnF x k t o) (pa:=pa) (pc:=pc) (po:=po) (poc:=poc) (cb:=cb) (m1:=m1) (m2:=m2) (m3:=m3) (m4:=m4) Ts (by exact vn0 k5 k3 k8 k10 k6 k4 k9 k7) (by rw [nx_pa]) ?_
 refine ret0 rfl (()) (by first | rfl | (first | rfl | (congr 1;done) | (congr 1 <;> first | rfl | omega | (simp;done) | (simp;omega)))) (by trivial) ?_
 exact Tf
end Go.Ab.Dj
set_option linter.unusedVariables false
set_option linter.unusedSimpArgs false
set_option maxRecDepth 100000
namespace Go.Ab.Dj
open Go Go.Proofs Go.Ab Go.Ab.Fe Go.Ab.Vc
theorem count_set {α:Type} {p:α→Bool} {b:α}:∀ {l:List α} {i:Nat} {a:α},l[i]?=some a→(l.set i b).countP p+(if p a then 1 else 0)=l.countP p+(if p b then 1 else 0)
  | [],i,a,h=>by simp at h
  | c::l,0,a,h=>by
    simp at h;subst h
    simp only [List.set_cons_zero,List.countP_cons]
    omega
  | c::l,i+1,a,h=>by
    simp at h
    have:=count_set (p:=p) (b:=b) h
    simp only [List.set_cons_succ,List.countP_cons]
    omega
theorem upd_some {κ ν:Type} [DecidableEq κ] {T:κ→Option ν} {k q:κ} {v:Option ν} {l:ν} (h:upd T k v q=some l):(q=k∧v=some l)∨(q≠k∧T q=some l):=by
  unfold upd at h
  split at h
  · rename_i e;exact .inl ⟨e,h⟩
  · rename_i e;exact .inr ⟨e,h⟩
theorem mg_cv {m:Option (List Int)} {l:List Int} (hl:CV l) (h:∀ q,m=some q→CV q):CV (mgF m l):=by
  cases m with
  | none=>exact hl
  | some q=>exact jn_cv hl (h q rfl)
theorem wtN_set {c:CS} {th va vo lk:Int} {pa O:List Int} {B:List T2} {n:Int} {i:Nat} {s s':T3} (hs:c.T[i]?=some s) (b r:Int) :
    wtN ⟨th,va,vo,lk,pa,c.T.set i s',O,B,n⟩ b r+(if s=(2,b,r) then 1 else 0)=wtN c b r+(if s'=(2,b,r) then 1 else 0):=by
  have:=count_set (p:=fun s=>decide (s=(2,b,r))) (b:=s') hs
  simpa [wtN] using this
theorem wtN_zero {c:CS} (hc:CInv c) {b r:Int} (h:(opF c b).1 < r):wtN c b r=0:=by
  unfold wtN
  rw [List.countP_eq_zero]
  intro s hs h2
  have h3:=of_decide_eq_true h2
  have h4:=(hc.st s hs).2.2.1 (by rw [h3])
  rw [h3] at h4
  simp at h4;omega
theorem opF_set {c:CS} {th va vo lk:Int} {pa O:List Int} {T:List T3} {n:Int} {o:Int} {v:T2} (h0:0≤o) (h:o.toNat < c.B.length) {b:Int} (hb:0≤b):opF ⟨th,va,vo,lk,pa,T,O,c.B.set o.toNat v,n⟩ b=if b=o then v else opF c b:=by
  unfold opF
  show (c.B.set o.toNat v).getD b.toNat _=_
  rw [getD_set h]
  by_cases e:b=o
  · subst e;rw [if_pos rfl,if_pos rfl]
  · rw [if_neg e,if_neg Om]
theorem icD_cv {x:VS} (hx:VInv x) {k t o:Int} (hvc:vcanF x k t o) (hk:relK k) {l:List Int} (hth:x.th t=some l):CV (icL l t.toNat):=by
  obtain ⟨h0,h1⟩:=th_rng hx (can_th hvc.1)
  have:=hvc.2 hk
  rw [thF_eq hth] at this
  exact icL_cv (hx.thc _ _ hth) Om this
theorem pres {x:CS} (hx:CInv x) {k t o:Int} (hc:canF x k t o) (u:Int):(stF (nxF x k t o) u).1≠0↔(stF x u).1≠0∨(k=7∧u=o):=by
  obtain ⟨n5,n6,n7,n9,n10,n11,nn⟩:=nxF_k hc
  obtain ⟨o5,o7,o9,o10,o11⟩:=can_obj hx hc
  obtain ⟨t0,t1,t2⟩:=stF_nz (can_th hc)
  have hth:=can_th hc
  by_cases k5:k=5
  · rw [n5 k5];show (stF x u).1≠0↔_;omega
  by_cases k6:k=6
  · rw [n6 k6];show (stF x u).1≠0↔_;omega
  by_cases k7:k=7
  · obtain ⟨p0,p1,p2⟩:=o7 k7
    rw [n7 k7,stF_set p0 p1 rfl]
    split
    · rename_i e;simp [k7,e]
    · rename_i e;simp [e]
  by_cases k9:k=9
  · rw [n9 k9,stF_set t0 t1 rfl]
    split
    · rename_i e;subst e;simp [hth]
    · rename_i e;simp [k7]
  by_cases k10:k=10
  · rw [n10 k10,stF_set t0 t1 rfl]
    split
    · rename_i e;subst e;simp [hth]
    · rename_i e;simp [k7]
  by_cases k11:k=11
  · rw [n11 k11,stF_set t0 t1 rfl]
    split
    · rename_i e;subst e;simp [hth]
    · rename_i e;simp [k7]
  rw [nn k5 k6 k7 k9 k10 k11];show (stF x u).1≠0↔_;omega
theorem isS_upd {T:Int→Option (List Int)} {t u:Int} {l:List Int}:(upd T t (some l) u).isSome=true↔u=t∨(T u).isSome=true:=by
  unfold upd
  split
  · rename_i e;simp [e]
  · rename_i e;simp [e]
/-- The threads' counts behind an event. -/
theorem wt_next {x:CS} (hx:CInv x) {k t o:Int} (hc:canF x k t o) (b r:Int) :
    (k=9→wtN (nxF x k t o) b r=wtN x b r+(if b=o∧r=(opF x o).1 then 1 else 0)) ∧
    (k=10→wtN (nxF x k t o) b r+(if b=o∧r=(stF x t).2.2 then 1 else 0)=wtN x b r) ∧
    (k≠9→k≠10→wtN (nxF x k t o) b r=wtN x b r):=by
  obtain ⟨n5,n6,n7,n9,n10,n11,nn⟩:=nxF_k hc
  obtain ⟨o5,o7,o9,o10,o11⟩:=can_obj hx hc
  obtain ⟨t0,t1,t2⟩:=stF_nz (can_th hc)
  have hth:=can_th hc
  refine ⟨fun k9=>?_,fun k10=>?_,fun k9 k10=>?_⟩
  · rw [n9 k9]
    have h:=wtN_set (th:=x.th) (va:=x.va) (vo:=x.vo) (lk:=x.lk) (pa:=x.pa) (O:=x.O) (B:=x.B.set o.toNat (arrF (opF x o) (x.pa.getD o.toNat 0))) (n:=x.n+1) (s':=(2,o,(opF x o).1)) t2 b r
    rw [if_neg (fun e=>by have:=(o9 k9).2.2.2;rw [e] at this;simp at this)] at h
    rw [Ad] at h
    rw [h]
    by_cases e:b=o∧r=(opF x o).1
    · rw [if_pos e,if_pos (by rw [e.1,e.2])]
    · rw [if_neg e,if_neg (fun h=>e (by simp at h;exact ⟨h.1.symm,h.2.symm⟩))]
  · rw [n10 k10]
    have h:=wtN_set (th:=x.th) (va:=x.va) (vo:=x.vo) (lk:=x.lk) (pa:=x.pa) (O:=x.O) (B:=x.B) (n:=x.n+1) (s':=(1,0,0)) t2 b r
    rw [if_neg (c:=((1:Int),(0:Int),(0:Int))=(2,b,r)) (by simp),Ad] at h
    rw [← h]
    obtain ⟨q1,q2,q3⟩:=o10 k10
    by_cases e:b=o∧r=(stF x t).2.2
    · rw [if_pos e,if_pos (by rw [e.1,e.2,q3,← q1])]
    · rw [if_neg e,if_neg (fun h=>e (by rw [q3,h];exact ⟨rfl,rfl⟩))]
  · by_cases k5:k=5
    · rw [n5 k5];rfl
    by_cases k6:k=6
    · rw [n6 k6];rfl
    by_cases k7:k=7
    · obtain ⟨p0,p1,p2⟩:=o7 k7
      rw [n7 k7]
      have h:=wtN_set (th:=x.th) (va:=x.va) (vo:=x.vo) (lk:=x.lk) (pa:=x.pa) (O:=x.O) (B:=x.B) (n:=x.n+1) (s':=(1,0,0)) (stF_at (x:=x) p0 Om) b r
      rw [if_neg (c:=((1:Int),(0:Int),(0:Int))=(2,b,r)) (by simp),if_neg (fun e=>by rw [e] at p2;simp at p2)] at h
      omega
    by_cases k11:k=11
    · rw [n11 k11]
      have h:=wtN_set (th:=x.th) (va:=x.va) (vo:=x.vo) (lk:=x.lk) (pa:=x.pa) (O:=x.O) (B:=x.B) (n:=x.n+1) (s':=(3,0,0)) t2 b r
      rw [if_neg (c:=((3:Int),(0:Int),(0:Int))=(2,b,r)) (by simp),if_neg (fun e=>by have:=o11 k11;rw [e] at this;simp at this)] at h
      omega
    rw [nn k5 k6 k7 k9 k10 k11];rfl
theorem opF_next {x:CS} (hx:CInv x) {k t o:Int} (hc:canF x k t o) {b:Int} (hb:0≤b):opF (nxF x k t o) b=if k=9∧b=o then arrF (opF x o) (x.pa.getD o.toNat 0) else opF x b:=by
  obtain ⟨n5,n6,n7,n9,n10,n11,nn⟩:=nxF_k hc
  obtain ⟨o5,o7,o9,o10,o11⟩:=can_obj hx hc
  by_cases k9:k=9
  · obtain ⟨p0,p1,p2,p3⟩:=o9 k9
    rw [n9 k9,opF_set p0 p1 hb]
    by_cases e:b=o
    · rw [if_pos e,if_pos ⟨k9,e⟩]
    · rw [if_neg e,if_neg (fun h=>e h.2)]
  rw [if_neg (fun h=>k9 h.1)]
  by_cases k5:k=5
  · rw [n5 k5];rfl
  by_cases k6:k=6
  · rw [n6 k6];rfl
  by_cases k7:k=7
  · rw [n7 k7];rfl
  by_cases k10:k=10
  · rw [n10 k10];rfl
  by_cases k11:k=11
  · rw [n11 k11];rfl
  rw [nn k5 k6 k7 k9 k10 k11];rfl
theorem nx_B {x:CS} (hx:CInv x) {k t o:Int} (hc:canF x k t o):(nxF x k t o).B.length=x.B.length:=by
  rw [(next_inv hx k t o).bl,hx.bl,nx_pa]
theorem vn_ck {x:VS} {k t o:Int}:(vnF x k t o).ck=nxF x.ck k t o:=by
  unfold vnF
  repeat (split;· rfl)
  rfl
/-- The rounds behind an event. -/
theorem vn_rd {x:VS} {k t o:Int}:(vnF x k t o).rd=if k=10 then upd x.rd (rdK x t o) (if (rdF x (rdK x t o)).2 - 1≤0 then none else some ((rdF x (rdK x t o)).1,(rdF x (rdK x t o)).2 - 1))
    else if k=9 then upd x.rd (o,(opF x.ck o).1) (some (mgF ((x.rd (o,(opF x.ck o).1)).map (·.1)) (thF x t),x.ck.pa.getD o.toNat 0)) else x.rd:=by
  unfold vnF
  by_cases k5:k=5
  · simp [k5]
  by_cases k3:k=3
  · simp [k3]
  by_cases k8:k=8
  · simp [k8]
  by_cases k10:k=10
  · simp [k10]
  by_cases k6:k=6
  · simp [k6]
  by_cases k4:k=4
  · simp [k4]
  by_cases k9:k=9
  · simp [k9]
  by_cases k7:k=7
  · simp [k7]
  simp [*]
theorem next_vinv {x:VS} (hx:VInv x) {k t o:Int} (hvc:vcanF x k t o):VInv (vnF x k t o):=by
  have hc:=hvc.1
  obtain ⟨l,hth⟩:=th_some hx (can_th hc)
  have hlc:=hx.thc _ _ hth
  obtain ⟨o5,o7,o9,o10,o11⟩:=can_obj hx.ck hc
  have hts:(x.th t).isSome=true:=by rw [hth];rfl
  have hic:relK k→CV (icL l t.toNat):=fun h=>icD_cv hx hvc h hth
  have hpp:k=9→1≤x.ck.pa.getD o.toNat 0∧x.ck.pa.getD o.toNat 0≤65535:=fun k9=>by
    obtain ⟨pp,hp⟩:=cR (o9 k9).2.2.1
    rw [getD_some hp];exact hx.ck.sh.pa pp (List.mem_of_getElem? hp)
  refine ⟨by rw [vn_ck];exact next_inv hx.ck k t o,fun u=>?_,?_,?_,?_,fun r p h=>?_,fun r p h=>?_,fun b r=>?_,fun b hb0 hb1=>?_⟩
  · rw [vn_ck,pres hx.ck hc u,← hx.th u]
    by_cases k5:k=5
    · rw [vn5 hth k5,isS_upd];constructor
      · rintro (rfl | h) <;> simp_all
      · rintro (h | h)
        · exact .inr h
        · omega
    by_cases k3:k=3
    · rw [vn3 hth k3,isS_upd];constructor
      · rintro (rfl | h) <;> simp_all
      · rintro (h | h)
        · exact .inr h
        · omega
    by_cases k8:k=8
    · rw [vn8 hth k8,isS_upd];constructor
      · rintro (rfl | h) <;> simp_all
      · rintro (h | h)
        · exact .inr h
        · omega
    by_cases k10:k=10
    · rw [vn10 hth k10,dpF,isS_upd];constructor
      · rintro (rfl | h) <;> simp_all
      · rintro (h | h)
        · exact .inr h
        · omega
    by_cases k6:k=6
    · rw [vn6 hth k6,isS_upd];constructor
      · rintro (rfl | h) <;> simp_all
      · rintro (h | h)
        · exact .inr h
        · omega
    by_cases k4:k=4
    · rw [vn4 hth k4,isS_upd];constructor
      · rintro (rfl | h) <;> simp_all
      · rintro (h | h)
        · exact .inr h
        · omega
    by_cases k9:k=9
    · rw [vn9 hth k9,isS_upd];constructor
      · rintro (rfl | h) <;> simp_all
      · rintro (h | h)
        · exact .inr h
        · omega
    by_cases k7:k=7
    · rw [vn7 hth k7,isS_upd,isS_upd];constructor
      · rintro (rfl | rfl | h) <;> simp_all
      · rintro (h | h)
        · exact .inr (.inr h)
        · exact .inr (.inl h.2)
    rw [vn0 k5 k3 k8 k10 k6 k4 k9 k7];simp [k7]
  · intro u q h
    have key:∀ {v:List Int},CV v→upd x.th t (some v) u=some q→CV q:=fun hv h=>by
      rcases upd_some h with ⟨-,h⟩ | ⟨-,h⟩
      · cases h;exact hv
      · exact hx.thc _ _ h
    by_cases k5:k=5
    · rw [vn5 hth k5] at h;exact key (mg_cv hlc (hx.lkc _)) h
    by_cases k3:k=3
    · rw [vn3 hth k3] at h;exact key (mg_cv hlc (hx.voc _)) h
    by_cases k8:k=8
    · rw [vn8 hth k8] at h;exact key (mg_cv hlc (hx.thc _)) h
    by_cases k10:k=10
    · rw [vn10 hth k10,dpF,thF_eq hth] at h
      obtain ⟨p,hp,-⟩:=rd_some hx (o10 k10).1 (o10 k10).2.2
      refine key (jn_cv hlc ?_) h
      rw [rdF,hp];exact hx.rdc _ _ hp
    by_cases k6:k=6
    · rw [vn6 hth k6] at h;exact key (hic (by unfold relK;omega)) h
    by_cases k4:k=4
    · rw [vn4 hth k4] at h;exact key (hic (by unfold relK;omega)) h
    by_cases k9:k=9
    · rw [vn9 hth k9] at h;exact key (hic (by unfold relK;omega)) h
    by_cases k7:k=7
    · rw [vn7 hth k7] at h
      obtain ⟨p0,p1,p2⟩:=o7 k7
      have h3:=hx.ck.tl
      have h4:=hx.ck.sh.th
      rcases upd_some h with ⟨-,h⟩ | ⟨-,h⟩
      · cases h;exact hic (by unfold relK;omega)
      · rcases upd_some h with ⟨-,h⟩ | ⟨-,h⟩
        · cases h;exact stL_cv hlc Om (by decide) (by decide)
        · exact hx.thc _ _ h
    rw [vn0 k5 k3 k8 k10 k6 k4 k9 k7] at h;exact hx.thc _ _ h
  · intro u q h
    by_cases k6:k=6
    · rw [vn6 hth k6] at h
      rcases upd_some h with ⟨-,h⟩ | ⟨-,h⟩
      · cases h;exact hlc
      · exact hx.lkc _ _ h
    have e:(vnF x k t o).lk=x.lk:=by
      unfold vnF
      rw [if_neg k6]
      repeat (split;· rfl)
      rfl
    rw [e] at h;exact hx.lkc _ _ h
  · intro u q h
    by_cases k4:k=4
    · rw [vn4 hth k4] at h
      rcases upd_some h with ⟨-,h⟩ | ⟨-,h⟩
      · cases h;exact mg_cv hlc (hx.voc _)
      · exact hx.voc _ _ h
    have e:(vnF x k t o).vo=x.vo:=by
      unfold vnF
      rw [if_neg k4]
      repeat (split;· rfl)
      rfl
    rw [e] at h;exact hx.voc _ _ h
  · rw [vn_rd] at h
    split at h
    · rename_i k10
      rcases upd_some h with ⟨-,h⟩ | ⟨-,h⟩
      · obtain ⟨p2,hp,-⟩:=rd_some hx (o10 k10).1 (o10 k10).2.2
        split at h
        · cases h
        · cases h
          show CV (rdF x (rdK x t o)).1
          rw [rdK,rdF,hp];exact hx.rdc _ _ hp
      · exact hx.rdc _ _ h
    · split at h
      · rcases upd_some h with ⟨-,h⟩ | ⟨-,h⟩
        · cases h
          show CV (mgF _ _)
          rw [thF_eq hth]
          exact mg_cv hlc fun q hq=>map_fst_cv hx hq
        · exact hx.rdc _ _ h
      · exact hx.rdc _ _ h
  · rw [vn_rd] at h
    split at h
    · rename_i k10
      rcases upd_some h with ⟨-,h⟩ | ⟨-,h⟩
      · obtain ⟨p2,hp,-⟩:=rd_some hx (o10 k10).1 (o10 k10).2.2
        have h5:=hx.rds _ _ hp
        split at h
        · cases h
        · rename_i h6
          cases h
          have h7:rdF x (rdK x t o)=p2:=by rw [rdK,rdF,hp];rfl
          rw [h7] at h6 ⊢
          exact ⟨by show 0≤p2.2 - 1;omega,by show p2.2 - 1≤65535;omega⟩
      · exact hx.rds _ _ h
    · split at h
      · rename_i k9
        rcases upd_some h with ⟨-,h⟩ | ⟨-,h⟩
        · cases h
          have:=hpp k9
          exact ⟨by show 0≤x.ck.pa.getD _ _;omega,this.2⟩
        · exact hx.rds _ _ h
      · exact hx.rds _ _ h
  · rw [vn_ck]
    obtain ⟨w9,w10,w0⟩:=wt_next hx.ck hc b r
    have h1:=hx.wt b r
    rw [rdF,vn_rd]
    by_cases k10:k=10
    · rw [if_pos k10]
      have hw:=w10 k10
      by_cases e:b=o∧r=(stF x.ck t).2.2
      · rw [if_pos e] at hw
        have e2:((b,r):Int × Int)=rdK x t o:=by rw [rdK,e.1,e.2]
        rw [e2] at h1 ⊢
        rw [sL]
        split
        · simp;omega
        · simp;omega
      · rw [if_neg e] at hw
        have e2:((b,r):Int × Int)≠rdK x t o:=fun h=>e (by rw [rdK] at h;simp at h;exact h)
        rw [sF e2]
        show _≤(rdF x (b,r)).2
        omega
    · rw [if_neg k10]
      by_cases k9:k=9
      · rw [if_pos k9]
        have hw:=w9 k9
        by_cases e:b=o∧r=(opF x.ck o).1
        · rw [if_pos e] at hw
          have e2:((b,r):Int × Int)=(o,(opF x.ck o).1):=by rw [e.1,e.2]
          rw [e2,sL]
          obtain ⟨p0,p1,p2,p3⟩:=o9 k9
          obtain ⟨pp,hp⟩:=cR p2
          have h2:=hx.wo o p0 Om
          have h3:=hx.ck.op _ _ _ (opF_at (x:=x.ck) p0 Om) hp
          rw [getD_some hp]
          rw [e.1,e.2] at hw
          rw [e.1,e.2]
          show _≤pp
          omega
        · rw [if_neg e] at hw
          have e2:((b,r):Int × Int)≠(o,(opF x.ck o).1):=fun h=>e (by simp at h;exact h)
          rw [sF e2]
          show _≤(rdF x (b,r)).2
          omega
      · rw [if_neg k9,w0 k9 k10];exact h1
  · rw [vn_ck] at hb1 ⊢
    rw [nx_B hx.ck hc] at hb1
    have h1:=hx.wo b hb0 hb1
    rw [opF_next hx.ck hc hb0]
    by_cases e:k=9∧b=o
    · rw [if_pos e]
      obtain ⟨k9,rfl⟩:=e
      obtain ⟨p0,p1,p2,p3⟩:=o9 k9
      obtain ⟨pp,hp⟩:=cR p2
      rw [getD_some hp]
      unfold arrF
      split
      · have hz:=wtN_zero hx.ck (b:=b) (r:=(opF x.ck b).1+1) Om
        have hw:=(wt_next hx.ck hc b ((opF x.ck b).1+1)).1 k9
        rw [if_neg Om] at hw
        simp;omega
      · have hw:=(wt_next hx.ck hc b (opF x.ck b).1).1 k9
        rw [if_pos ⟨rfl,rfl⟩] at hw
        simp;omega
    · rw [if_neg e]
      obtain ⟨w9,w10,w0⟩:=wt_next hx.ck hc b (opF x.ck b).1
      by_cases k9:k=9
      · have hw:=w9 k9
        rw [if_neg (fun h=>e ⟨k9,h.1⟩)] at hw
        omega
      · by_cases k10:k=10
        · have hw:=w10 k10
          omega
        · rw [w0 k9 k10];exact h1
end Go.Ab.Dj
set_option linter.unusedVariables false
set_option linter.unusedSimpArgs false
set_option maxRecDepth 100000
namespace Go.Ab.Rv
open Go Go.Proofs Go.Ab Go.Ab.Vc
theorem getD_of {l:List Int} {k:Nat} {x:Int} (h:l[k]?=some x):l.getD k 0=x:=by rw [List.getD_eq_getElem?_getD,h];rfl
theorem getD_no {l:List Int} {k:Nat} (h:l.length≤k):l.getD k 0=0:=by rw [List.getD_eq_getElem?_getD,List.getElem?_eq_none h];rfl
theorem app_getD (l:List Int) (n k:Nat):(l++List.replicate n (0:Int)).getD k 0=l.getD k 0:=by
  simp only [List.getD_eq_getElem?_getD]
  rcases Nat.lt_or_ge k l.length with h | h
  · rw [List.getElem?_append_left h]
  · rw [List.getElem?_append_right h,List.getElem?_eq_none h,List.getElem?_replicate];split <;> rfl
def withL (l:List Int) (i:Nat) (x:Int):List Int:=(l++List.replicate (i+1 - l.length) 0).set i x
theorem with_g (l:List Int) (i:Nat) (x:Int) (k:Nat):(withL l i x).getD k 0=if k=i then x else l.getD k 0:=by
  unfold withL
  have hl:i < (l++List.replicate (i+1 - l.length) (0:Int)).length:=by simp;omega
  by_cases h:k=i
  · subst h
    rw [if_pos rfl,List.getD_eq_getElem?_getD,List.getElem?_set_self hl];rfl
  · rw [if_neg h,List.getD_eq_getElem?_getD,List.getElem?_set_ne (Ne.symm h),← List.getD_eq_getElem?_getD,app_getD]
/-- A list as long as may be, of clocks. -/
def OkV (l:List Int):Prop:=l.length≤65535∧∀ x∈l,0≤x∧x≤maxC
theorem ok_cv {l:List Int} (h:OkV l):CV (tr l):=tr_cv h.1 h.2
theorem ok_g {l:List Int} (h:OkV l) (k:Nat):0≤l.getD k 0∧l.getD k 0≤maxC:=by
  rcases Nat.lt_or_ge k l.length with h1 | h1
  · obtain ⟨x,hx⟩:=cR h1
    rw [getD_of hx];exact h.2 x (List.mem_of_getElem? hx)
  · rw [getD_no h1];decide
theorem ok_nil:OkV []:=⟨by decide,fun x h=>by cases h⟩
theorem ok_with {l:List Int} (h:OkV l) {i:Nat} (hi:i < 65535) {x:Int} (h0:0≤x) (h1:x≤maxC):OkV (withL l i x):=by
  unfold withL
  refine ⟨by simp;have:=h.1;omega,fun y hy=>?_⟩
  rcases List.mem_or_eq_of_mem_set hy with hy | rfl
  · rcases List.mem_append.1 hy with hy | hy
    · exact h.2 y hy
    · rw [(List.mem_replicate.1 hy).2];decide
  · exact ⟨h0,h1⟩
theorem tr_with {l:List Int} (h:OkV l) {i:Nat} (hi:i < 65535) {x:Int} (h0:0≤x) (h1:x≤maxC):tr (withL l i x)=stL (tr l) i x :=
  Tr_ext (tr_Tr _) (stL_cv (ok_cv h) hi h0 h1).tr fun k=>by rw [tr_g,with_g,stL_g,tr_g]
theorem ic_st {l:List Int} {t:Nat} (hl:CV l) (ht:t < 65535) (h:l.getD t 0 < maxC):stL l t (l.getD t 0+1)=icL l t:=by
  have hg:=g_rng hl.rng (by decide) t
  exact Tr_ext (stL_cv hl ht Om Om).tr (icL_cv hl ht h).tr fun k=>by rw [stL_g,icL_g]
theorem below_iff {l m:List Int} (hl:OkV l) (hm:OkV m):LeqL (tr l) (tr m)↔∀ i:Nat,i < l.length→l.getD i 0≤m.getD i 0:=by
  rw [leq_iff (ok_cv hl) (ok_cv hm)]
  constructor
  · intro q i _
    have:=q i
    rwa [tr_g,tr_g] at this
  · intro q i
    rw [tr_g,tr_g]
    rcases Nat.lt_or_ge i l.length with hi | hi
    · exact q i hi
    · rw [getD_no hi];exact (ok_g hm i).1
theorem trN_next (l:List Int) (i:Nat):trN l (i+1)=if l.getD i 0=0 then trN l i else i+1:=rfl
/-- The first i clocks of m have been joined into l. -/
def JnI (l m v:List Int) (i:Nat):Prop:=∀ k:Nat,v.getD k 0=if k < i then max (l.getD k 0) (m.getD k 0) else l.getD k 0
theorem JnI_zero (l m:List Int):JnI l m l 0:=fun k=>by rw [if_neg Om]
theorem JnI_skip {l m v:List Int} {i:Nat} (h:JnI l m v i) (hle:m.getD i 0≤v.getD i 0):JnI l m v (i+1):=fun k=>by
  have h1:=h k
  have h2:=h i
  rw [if_neg Om] at h2
  by_cases e:k=i
  · subst e;rw [if_pos Om,h2];omega
  · rw [h1]
    by_cases e2:k < i
    · rw [if_pos e2,if_pos Om]
    · rw [if_neg e2,if_neg Om]
theorem JnI_put {l m v:List Int} {i:Nat} (h:JnI l m v i) (hlt:v.getD i 0 < m.getD i 0):JnI l m (withL v i (m.getD i 0)) (i+1):=fun k=>by
  have h2:=h i
  rw [if_neg Om] at h2
  rw [with_g]
  by_cases e:k=i
  · subst e;rw [if_pos rfl,if_pos Om];omega
  · rw [if_neg e,h k]
    by_cases e2:k < i
    · rw [if_pos e2,if_pos Om]
    · rw [if_neg e2,if_neg Om]
theorem JnI_end {l m v:List Int} {i:Nat} (hl:OkV l) (hm:OkV m) (hv:OkV v) (h:JnI l m v i) (hi:m.length≤i):tr v=jn (tr l) (tr m) :=
  Tr_ext (tr_Tr _) (jn_cv (ok_cv hl) (ok_cv hm)).tr fun k=>by
    rw [tr_g,jn_g (ok_cv hl) (ok_cv hm),tr_g,tr_g,h k]
    split
    · rfl
    · rw [getD_no (l:=m) Om]
      have:=(ok_g hl k).1
      omega
/-- A vector at b: its list may end in zeros. -/
def ckB (b:Nat) (t:List Int):HProp:=fun h=>∃ ao cap l,OkV l∧tr l=t∧Sat [cells b 0 [.slice ao l.length cap],own 1 encU ao cap l] h
def ckA (a:Option Addr) (t:List Int):HProp:=fun h=>∃ b,a=some ⟨b,0,none⟩∧ckB b t h
def optR (a:Option Addr) (m:Option (List Int)):HProp:=match m with | none=>fun _=>a=none | some t=>ckA a t
section
variable {w0:World} {ds:List Deferred} {n:Nat} {e:Env} {Γ Γ':List HProp} {X:Act→World→Prop}
theorem ck_open {b:Nat} {t:List Int} (tk:Take Γ (ckB b t) Γ') (k:∀ ao cap l,OkV l→tr l=t→Le (St w0 ds n e (cells b 0 [.slice ao l.length cap]::own 1 encU ao cap l::Γ')) X):Le (St w0 ds n e Γ) X:=fun x w s=>by
  obtain ⟨h1,l1,⟨ao,cap,l,ho,ht,a1⟩,s1⟩:=tk _ s.heap
  exact k ao cap l ho ht x w ⟨s.defers,s.size,s.env,Bun.unfold ⟨h1,l1,a1,s1⟩,s.amb⟩
theorem ck_fold {b:Nat} {ao:Option Addr} {cap m:Nat} {l:List Int} (t:List Int) (tk:Takes Γ [cells b 0 [.slice ao m cap],own 1 encU ao cap l] Γ') (hm:m=l.length) (ho:OkV l) (ht:tr l=t) (k:Le (St w0 ds n e (ckB b t::Γ')) X):Le (St w0 ds n e Γ) X:=cQ (fun h s=>by
  subst hm
  obtain ⟨h1,l1,a1,s1⟩:=Bun.fold (tk h s)
  exact ⟨h1,l1,⟨ao,cap,l,ho,ht,a1⟩,s1⟩) k
theorem ck_a {a:Option Addr} {t:List Int} (tk:Take Γ (ckA a t) Γ') (k:∀ b,a=some ⟨b,0,none⟩→Le (St w0 ds n e (ckB b t::Γ')) X):Le (St w0 ds n e Γ) X:=fun x w s=>by
  obtain ⟨h1,l1,⟨b,ha,a1⟩,s1⟩:=tk _ s.heap
  exact k b ha x w ⟨s.defers,s.size,s.env,⟨h1,l1,a1,s1⟩,s.amb⟩
theorem ck_aF {b:Nat} {t:List Int} (tk:Take Γ (ckB b t) Γ') (k:Le (St w0 ds n e (ckA (some ⟨b,0,none⟩) t::Γ')) X):Le (St w0 ds n e Γ) X:=cQ (fun h s=>by
  obtain ⟨h1,l1,a1,s1⟩:=tk _ s
  exact ⟨h1,l1,⟨b,rfl,a1⟩,s1⟩) k
end
theorem new_spec:Spec Tryz.prog 34 [] [] (fun (r:Nat)=>.pointer (some ⟨r,0,none⟩)) (fun r=>True) (fun r=>[ckB r []]):=by
 refine kQ (n:=3) Tryz.func34 rfl rfl rfl ?_
 intro Γ w0
 simp only [argE,Ca,Na,Zd,Nat.reduceAdd]
 refine qL (qC (.q 0 (.done)) Kr ?_)
 refine qS rfl rfl rfl rfl (qR (qQ (qL (qC (.q 0 ((.l 1 [] (.q 2 (.done))))) Kr ?_))))
 refine cC rfl rfl rfl rfl (vs:=[_]) (kV υ'153 Tryz.zeroValue153 (ps:=[(0,1)]) ⟨rfl,ζ'65,trivial⟩ rfl) ?_
 refine sP rfl rfl rfl rfl (us:=[_]) rfl ?_
 intro b2
 refine qV (qS rfl rfl rfl rfl (qR (qQ (qJ (cQ (fun _ h=>sR (sz:=1) (enc:=encU) h) ?_)))))
 refine ck_fold (b:=b2) (ao:=none) (cap:=0) (l:=[]) ([]:List Int) Ts (by first | rfl | simp) ok_nil rfl ?_
 refine kD rfl rfl (b2) (by first | rfl | (first | rfl | (congr 1;done) | (congr 1 <;> first | rfl | omega | (simp;done) | (simp;omega)))) (by trivial) ?_
 exact Tf
theorem may_spec (i:Nat) (hi:i < 65535):Spec Tryz.prog 78 [.int .i64 ((i:Nat):Int)] [] (fun (_:Unit)=>.bool true) (fun _=>True) (fun _=>[]):=by
 refine kQ (n:=9) Tryz.func78 rfl rfl rfl ?_
 intro Γ w0
 simp only [argE,Ca,Na,Zd,Nat.reduceAdd]
 refine qL (qC (.q 0 (.done)) Kr ?_)
 refine qS rfl rfl rfl rfl (qR (qQ (qL (qC (.q 0 (.q 1 (.q 2 (.q 3 (.q 4 (.q 5 (.q 6 (.done)))))))) Kr ?_))))
 refine qK rfl rfl rfl rfl (qB rfl rfl rfl rfl rfl (b_geq _ _ _ _) ?_)
 refine qK rfl rfl rfl rfl ?_
 refine cF 5 rfl (fun hg=>?_) (fun hg=>by exfalso;omega)
 refine qK rfl rfl rfl rfl (qB rfl rfl rfl rfl rfl (cB _ _ _ _) ?_)
 refine kW rfl rfl rfl rfl rfl (qS rfl rfl rfl rfl (qR (qW [2] (e':=[(2,_)]) rfl ?_)))
 refine qQ (qJ (kD rfl rfl (()) (by rw [decide_eq_true (show (i:Int) < 65535 by omega)]) (by trivial) ?_))
 exact Tf
theorem at_spec (xs:List Int) (ao:Option Addr) (n c:Nat) (A:HProp) (hr:RdS A ao (xs.flatMap encU)) (hn:xs.length=n) (hb:n≤4000000000) (i:Nat):Spec Tryz.prog 105 [.slice ao n c,.int .i64 ((i:Nat):Int)] [A] (fun (_:Unit)=>.int .u64 (xs.getD i 0)) (fun _=>True) (fun _=>[A]):=by
 refine kQ (n:=17) Tryz.func105 rfl rfl rfl ?_
 intro Γ w0
 simp only [argE,Ca,Na,Zd,Nat.reduceAdd]
 refine qL (qC (.q 0 (.done)) Kr ?_)
 refine qS rfl rfl rfl rfl (qR (qQ (qL (qL (qC (.q 0 (.q 1 (.q 2 (.q 3 (.q 4 (.q 5 (.q 6 (.q 7 (.done))))))))) Kr ?_)))))
 refine qK rfl rfl rfl rfl (qB rfl rfl rfl rfl rfl (cB _ _ _ _) ?_)
 refine qK rfl rfl rfl rfl ?_
 refine cF 7 rfl (fun hg=>by exfalso;omega) (fun hg=>?_)
 refine qK rfl rfl rfl rfl (qK rfl rfl rfl rfl (cJ rfl rfl rfl rfl υ'65 ?_))
 refine qB rfl rfl rfl rfl rfl (b_geq _ _ _ _) ?_
 refine kN rfl rfl rfl rfl rfl (qR (qW [0,1,12] (e':=[(0,_),(1,_),(12,_)]) rfl ?_))
 refine qQ ?_
 refine qD rfl (fun hge=>?_) (fun hge=>?_)
 ·
  refine qL (qC (.q 0 (.done)) Kr ?_)
  refine qS rfl rfl rfl rfl (qR (qQ (qJ (qN (kD rfl rfl (()) (by rw [getD_no Om]) (by trivial) ?_)))))
  exact Tf
 obtain ⟨x,hx⟩:=cR (l:=xs) (i:=i) Om
 refine qF (qQ (qL (qC (.q 0 (.q 1 (.q 2 (.q 3 (.q 4 (.done)))))) Kr ?_)))
 refine qK rfl rfl rfl rfl (qK rfl rfl rfl rfl (q_idxR (sz:=0) (k:=i) rfl rfl rfl rfl rfl υ'65 ζ'67 (hr) hx encU_len (by first | rfl | omega) Om ?_))
 intro ib15 io15 _ hd15
 refine q_load rfl rfl rfl rfl α'67 Tk (hd15 0 (.int .u64 x) rfl) ?_
 refine qS rfl rfl rfl rfl (qR (qW [4] (e':=[(4,_)]) rfl ?_))
 refine qQ (qJ (kD rfl rfl (()) (by rw [getD_of hx]) (by trivial) ?_))
 exact Tf
theorem get_open (b:Nat) (ao:Option Addr) (cap:Nat) (l:List Int) (ho:OkV l) (i:Nat):Spec Tryz.prog 77 [.pointer (some ⟨b,0,none⟩),.int .i64 ((i:Nat):Int)] [cells b 0 [.slice ao l.length cap],own 1 encU ao cap l] (fun (_:Unit)=>.int .u64 (l.getD i 0)) (fun _=>True) (fun _=>[cells b 0 [.slice ao l.length cap],own 1 encU ao cap l]):=by
 refine kQ (n:=13) Tryz.func77 rfl rfl rfl ?_
 intro Γ w0
 simp only [argE,Ca,Na,Zd,Nat.reduceAdd]
 have hll:=ho.1
 refine qL (qC (.q 0 (.done)) Kr ?_)
 refine qS rfl rfl rfl rfl (qR (qQ (qL (qL (qC (.q 0 (.q 1 (.done))) Kr ?_)))))
 refine qK rfl rfl rfl rfl (cG rfl rfl rfl rfl υ'102 ?_)
 refine kB 6 rfl (v':=.bool false) rfl ?_
 refine qR (qQ (kZ rfl ?_))
 refine qF (qQ (qL (qC (.q 0 (.q 1 (.q 2 (.q 3 (.q 4 ((.l 5 [] (.q 6 (.done))))))))) Kr ?_)))
 refine qK rfl rfl rfl rfl (qX rfl rfl rfl rfl (qG (k:=0) rfl rfl rfl rfl υ'153 rfl ζ'65 rfl ?_))
 refine qP (j:=0) rfl rfl rfl rfl α'65 Tk Az (by rfl) ?_
 refine qK rfl rfl rfl rfl (cS (A:=own 1 encU ao cap l) Tk ?_)
 refine own_fc fun f_1a f_1b f_1c=>?_
 have sp_2:=Rv.at_spec l ao l.length cap (own 1 encU ao cap l) (rR encU_len (fun h=>(f_1b h).1) f_1c) Ln Om i
 refine qM rfl rfl rfl rfl rfl rfl Tryz.call105 (sp_2) Ts ?_
 rintro ⟨⟩ -
 try simp only [Ca,Na]
 refine qV (qS rfl rfl rfl rfl (qR (qW [4] (e':=[(4,_)]) rfl ?_)))
 refine qQ (qJ (kD rfl rfl (()) (by first | rfl | (first | rfl | (congr 1;done) | (congr 1 <;> first | rfl | omega | (simp;done) | (simp;omega)))) (by trivial) ?_))
 exact Tf
theorem put_open (b:Nat) (ao:Option Addr) (cap:Nat) (l:List Int) (ho:OkV l) (i:Nat) (z:Int) (hi:i < 65535):Spec Tryz.prog 79 [.pointer (some ⟨b,0,none⟩),.int .i64 ((i:Nat):Int),.int .u64 z] [cells b 0 [.slice ao l.length cap],own 1 encU ao cap l] (fun (r:Option Addr × Nat)=>.tuple #[]) (fun r=>True) (fun r=>[cells b 0 [.slice r.1 (withL l i z).length r.2],own 1 encU r.1 r.2 (withL l i z)]):=by
 refine kQ (n:=29) Tryz.func79 rfl rfl rfl ?_
 intro Γ w0
 simp only [argE,Ca,Na,Zd,Nat.reduceAdd]
 have hll:=ho.1
 refine qL (kC ?_)
 refine cH (α:=Nat × Option Addr × Nat) (fun (x_:Nat × Option Addr × Nat)=>match x_ with | (m,aa,cc)=>m≤i+1 - l.length∧True) (fun (x_:Nat × Option Addr × Nat)=>match x_ with | (m,aa,cc)=>[]) (fun (x_:Nat × Option Addr × Nat)=>match x_ with | (m,aa,cc)=>[cells b 0 [.slice aa (l.length+m) cc],own 1 encU aa cc (l++List.replicate m (0:Int))]) (fun (x_:Nat × Option Addr × Nat)=>match x_ with | (m,aa,cc)=>i+1 - l.length - m) [0,1,2] (er:=[(0,_),(1,_),(2,_)]) rfl (0,ao,cap) ?_ (by exact trivial) (by (try dsimp only);rw [List.replicate_zero,List.append_nil,Ad];(repeat ((with_reducible apply Z2);focus (first | (with_reducible (repeat (first | exact Z0 | apply Z1));done) | (repeat (first | exact Z0 | apply Z1)))));exact Z3) ?_
 · exact ⟨Nat.zero_le _,trivial⟩
 rintro ⟨m,aa,cc⟩ ⟨hle_m,hm_⟩
 try simp only [Ca,Na]
 refine qL (qL (qC (.q 0 (.q 1 (.q 2 (.q 3 (.q 4 (.q 5 (.q 6 (.done)))))))) Kr ?_))
 refine qK rfl rfl rfl rfl (qX rfl rfl rfl rfl (qG (k:=0) rfl rfl rfl rfl υ'153 rfl ζ'65 rfl ?_))
 refine qP (j:=0) rfl rfl rfl rfl α'65 Tk Az (by rfl) ?_
 refine cJ rfl rfl rfl rfl υ'65 ?_
 refine qK rfl rfl rfl rfl (qB rfl rfl rfl rfl rfl (b_leq _ _ _ _) ?_)
 refine qR (qW [0,1,2,12] (e':=[(0,_),(1,_),(2,_),(12,_)]) rfl ?_)
 refine qQ ?_
 refine qD rfl (fun hlt=>?_) (fun hlt=>?_)
 ·
  refine qF (qQ (kC (qC (.q 0 (.q 1 (.q 2 (.q 3 (.q 4 ((.l 5 [] ((.l 6 [] (.q 7 (.q 8 ((.l 9 [] (.done)))))))))))))) Kr ?_)))
  refine qK rfl rfl rfl rfl (qK rfl rfl rfl rfl (qX rfl rfl rfl rfl (qG (k:=0) rfl rfl rfl rfl υ'153 rfl ζ'65 rfl ?_)))
  refine qP (j:=0) rfl rfl rfl rfl α'65 Tk Az (by rfl) ?_
  refine cL rfl rfl rfl rfl (sQ (us:=[_]) υ'65 ζ'67 rfl ω'67 rfl rfl rfl) ?_
  intro b18
  refine qV (sG (sz:=1) (enc:=encU) (xs:=(l++List.replicate m (0:Int))) rfl rfl rfl rfl rfl υ'65 τ'67 rfl rfl rfl (by decide) Tk Tk (by first | rfl | omega | (simp;done) | (simp;omega)) (ys:=[(0:Int)]) (sX sS) (by rfl) (by first | rfl | omega) (encU_len) (encU_one) Om (by show _*8≤_;omega) ?_)
  intro ao19 cp19
  refine kB 19 rfl (v':=.slice ao19 (l.length+(m+1)) cp19) (by first | rfl | (congr 1;done) | (congr 1 <;> first | rfl | omega | (simp;done) | (simp;omega))) ?_
  refine qV (qX rfl rfl rfl rfl (qG (k:=0) rfl rfl rfl rfl υ'153 rfl ζ'65 rfl ?_))
  refine kH (j:=0) rfl rfl rfl rfl ζ'65 (us:=[_]) rfl rfl rfl Tk Az (by first | decide | (simp;done) | omega) ?_
  simp only [setL,List.set]
  refine qV (qR (qW [0,1,2] (e':=[(0,_),(1,_),(2,_)]) rfl ?_))
  refine kX (qQ ?_)
  rw [show (l++List.replicate m (0:Int))++[0]=l++List.replicate (m+1) 0 from by rw [List.append_assoc,← List.replicate_succ']]
  refine kJ (x:=(m,aa,cc)) ((m+1,ao19,cp19)) ?_ ?_ ?_ ?_
  · try dsimp only
    exact ⟨by omega,trivial⟩
  · show i+1 - l.length - (m+1) < i+1 - l.length - m;omega
  · exact ⟨rfl,rfl,rfl,trivial⟩
  · (try simp only [Ca,Na]);exact Tf
 refine cW (qY (qY (kK (qQ ?_))))
 obtain ⟨e,he⟩:=cR (l:=(l++List.replicate m (0:Int))) (i:=i) (by simp;omega)
 refine qC (.q 0 (.q 1 (.q 2 (.q 3 (.q 4 (.q 5 (.q 6 ((.l 7 [] (.done)))))))))) Kr ?_
 refine qK rfl rfl rfl rfl (qX rfl rfl rfl rfl (qG (k:=0) rfl rfl rfl rfl υ'153 rfl ζ'65 rfl ?_))
 refine qP (j:=0) rfl rfl rfl rfl α'65 Tk Az (by rfl) ?_
 refine qK rfl rfl rfl rfl (qK rfl rfl rfl rfl (kF (sz:=0) (k:=i) (enc:=encU) (xs:=(l++List.replicate m (0:Int))) rfl rfl rfl rfl rfl υ'65 ζ'67 he (by first | rfl | omega) (by first | omega | (simp;omega)) Tk ?_))
 intro ib28 io28 ha28 hl28 hc28
 refine sK (j:=0) (k:=i) (q:=z) (enc:=encU) (off:=io28) rfl rfl rfl rfl ζ'67 (us:=[_]) rfl rfl rfl ha28 encU_len he Tk (by first | rfl | exact (Ad _).symm | omega) (by first | decide | exact Nat.le_of_ble_eq_true rfl) (by rfl) ?_
 refine qV (qR (qW [] (e':=[]) rfl ?_))
 refine sH ?_
 have hmm:m=i+1 - l.length:=by omega
 have hw:(l++List.replicate m (0:Int)).set i z=withL l i z:=by rw [hmm];rfl
 rw [hw]
 have hwl:(withL l i z).length=l.length+m:=by unfold withL;simp;omega
 refine ret0 rfl ((aa,cc)) (by first | rfl | (first | rfl | (congr 1;done) | (congr 1 <;> first | rfl | omega | (simp;done) | (simp;omega)))) (by trivial) ?_
 rw [hwl]
 exact Tf
theorem get_spec (b:Nat) (t:List Int) (i:Nat):Spec Tryz.prog 77 [.pointer (some ⟨b,0,none⟩),.int .i64 ((i:Nat):Int)] [ckB b t] (fun (_:Unit)=>.int .u64 (t.getD i 0)) (fun _=>True) (fun _=>[ckB b t]):=fun Γ w s=>by
  obtain ⟨h1,l1,⟨ao,cap,l,ho,ht,a1⟩,s1⟩:=s
  have s2:=Bun.unfold (Γ:=[cells b 0 [.slice ao l.length cap],own 1 encU ao cap l]) ⟨h1,l1,a1,s1⟩
  subst ht
  rw [tr_g]
  exact (get_open b ao cap l ho i Γ w s2).mono fun e w' ⟨x,e1,hx,s',a⟩=>⟨x,e1,hx,(by
    obtain ⟨h3,l3,a3,s3⟩:=Bun.fold (Γ:=[cells b 0 [.slice ao l.length cap],own 1 encU ao cap l]) s'
    exact ⟨h3,l3,⟨ao,cap,l,ho,rfl,a3⟩,s3⟩),a⟩
theorem set_spec (b:Nat) (t:List Int) (i:Nat) (z:Int) (hi:i < 65535) (h0:0≤z) (h1:z≤maxC):Spec Tryz.prog 38 [.pointer (some ⟨b,0,none⟩),.int .i64 ((i:Nat):Int),.int .u64 z] [ckB b t] (fun (_:Unit)=>.int .i64 0) (fun _=>True) (fun _=>[ckB b (stL t i z)]):=by
 refine kQ (n:=18) Tryz.func38 rfl rfl rfl ?_
 intro Γ w0
 simp only [argE,Ca,Na,Zd,Nat.reduceAdd]
 have h1_:=h1
 simp only [maxC] at h1_
 refine qL (qC (.q 0 (.done)) Kr ?_)
 refine qS rfl rfl rfl rfl (qR (qQ (qL (qL (qC (.q 0 (.q 1 (.done))) Kr ?_)))))
 refine qK rfl rfl rfl rfl (cG rfl rfl rfl rfl υ'102 ?_)
 refine kB 8 rfl (v':=.bool false) rfl ?_
 refine qR (qQ (kZ rfl ?_))
 refine qF (qQ (qL (qL (ck_open (b:=b) (t:=t) Tk fun ao cap l ho ht=>?_))))
 have hll:=ho.1
 refine qC (.q 0 ((.l 1 [] (.q 2 (.done))))) Kr ?_
 refine qK rfl rfl rfl rfl ?_
 have sp_1:=Rv.may_spec i Om
 refine qM rfl rfl rfl rfl rfl rfl Tryz.call78 (sp_1) Ts ?_
 rintro ⟨⟩ -
 try simp only [Ca,Na]
 refine qV (sY rfl rfl rfl rfl ?_)
 refine kB 11 rfl (v':=.bool false) rfl ?_
 refine qR (qW [0,1,2,11] (e':=[(0,_),(1,_),(2,_),(11,_)]) rfl ?_)
 refine qQ (kZ rfl ?_)
 refine qF (qQ (qL (qL (qC (.q 0 (.q 1 (.done))) Kr ?_))))
 refine qK rfl rfl rfl rfl (qB rfl rfl rfl rfl rfl (b_gtr _ _ _ _) ?_)
 refine qR (qQ ?_)
 refine qD rfl (fun hg=>by exfalso;omega) (fun hg=>?_)
 refine qF (qQ (qL (qC (.q 0 (.q 1 (.q 2 ((.l 3 [] (.done)))))) Kr ?_)))
 refine qK rfl rfl rfl rfl (qK rfl rfl rfl rfl (qK rfl rfl rfl rfl ?_))
 have sp_2:=Rv.put_open b ao cap l ho i z Om
 refine qM rfl rfl rfl rfl rfl rfl Tryz.call79 (sp_2) Ts ?_
 rintro ⟨pa,pc⟩ -
 try simp only [Ca,Na]
 refine qV (qR (qW [] (e':=[]) rfl ?_))
 refine qQ (qL (qC (.q 0 (.done)) Kr ?_))
 refine qS rfl rfl rfl rfl (qR (qQ (qJ (ck_fold (b:=b) (ao:=pa) (cap:=pc) (l:=(withL l i z)) (stL t i z) Ts (by first | rfl | simp) (ok_with ho hi h0 h1) (by rw [tr_with ho hi h0 h1,ht]) ?_))))
 refine kD rfl rfl (()) (by first | rfl | (first | rfl | (congr 1;done) | (congr 1 <;> first | rfl | omega | (simp;done) | (simp;omega)))) (by trivial) ?_
 exact Tf
theorem inc_spec (b:Nat) (t:List Int) (i:Nat) (hi:i < 65535) (hlt:t.getD i 0 < maxC):Spec Tryz.prog 74 [.pointer (some ⟨b,0,none⟩),.int .i64 ((i:Nat):Int)] [ckB b t] (fun (_:Unit)=>.tuple #[.int .u64 (t.getD i 0+1),.int .i64 0]) (fun _=>True) (fun _=>[ckB b (icL t i)]):=by
 refine kQ (n:=24) Tryz.func74 rfl rfl rfl ?_
 intro Γ w0
 simp only [argE,Ca,Na,Zd,Nat.reduceAdd]
 have h1_:=hlt
 simp only [maxC] at h1_
 refine qL (qC (.q 0 (.q 1 (.done))) Kr ?_)
 refine qS rfl rfl rfl rfl (qS rfl rfl rfl rfl (qR (qQ (qL (qL (qC (.q 0 (.q 1 (.done))) Kr ?_))))))
 refine qK rfl rfl rfl rfl (cG rfl rfl rfl rfl υ'102 ?_)
 refine kB 8 rfl (v':=.bool false) rfl ?_
 refine qR (qQ (kZ rfl ?_))
 refine qF (qQ (qL (qL (ck_open (b:=b) (t:=t) Tk fun ao cap l ho ht=>?_))))
 have hll:=ho.1
 refine qC (.q 0 ((.l 1 [] (.q 2 (.done))))) Kr ?_
 refine qK rfl rfl rfl rfl ?_
 have sp_1:=Rv.may_spec i Om
 refine qM rfl rfl rfl rfl rfl rfl Tryz.call78 (sp_1) Ts ?_
 rintro ⟨⟩ -
 try simp only [Ca,Na]
 refine qV (sY rfl rfl rfl rfl ?_)
 refine kB 11 rfl (v':=.bool false) rfl ?_
 refine qR (qW [0,1,11] (e':=[(0,_),(1,_),(11,_)]) rfl ?_)
 refine qQ (kZ rfl ?_)
 refine qF (qQ (qL (qC (.q 0 (.q 1 ((.l 2 [] (.q 3 (.done)))))) Kr ?_)))
 refine qK rfl rfl rfl rfl (qK rfl rfl rfl rfl ?_)
 have sp_2:=Rv.get_open b ao cap l ho i
 refine qM rfl rfl rfl rfl rfl rfl κ'77 (sp_2) Ts ?_
 rintro ⟨⟩ -
 try simp only [Ca,Na]
 refine qV (qS rfl rfl rfl rfl (qR (qW [0,1,6] (e':=[(0,_),(1,_),(6,_)]) rfl ?_)))
 refine qQ (qL (qL (qC (.q 0 (.q 1 (.done))) Kr ?_)))
 refine qK rfl rfl rfl rfl (qB rfl rfl rfl rfl rfl (cP _ _ _ _) ?_)
 refine qR (qQ ?_)
 refine qD rfl (fun hg=>by exfalso;first | omega | (rw [← tr_g,ht] at hg;omega)) (fun hg=>?_)
 refine qF (qQ (qL ?_))
 have hgg:=ok_g ho i
 have hlg:l.getD i 0=t.getD i 0:=by rw [← ht,tr_g]
 refine qC (.q 0 (.q 1 (.q 2 (.q 3 ((.l 4 [] (.done))))))) Kr ?_
 refine qK rfl rfl rfl rfl (qK rfl rfl rfl rfl (qK rfl rfl rfl rfl (qB rfl rfl rfl rfl rfl (cV _ (by exact fits_u64 Om Om)) ?_)))
 have sp_3:=Rv.put_open b ao cap l ho i ((l.getD i 0)+1) Om
 refine qM rfl rfl rfl rfl rfl rfl Tryz.call79 (sp_3) Ts ?_
 rintro ⟨pa,pc⟩ -
 try simp only [Ca,Na]
 refine qV (qR (qW [6] (e':=[(6,_)]) rfl ?_))
 refine qQ (qL (qC (.q 0 (.q 1 (.q 2 (.q 3 (.done))))) Kr ?_))
 refine qK rfl rfl rfl rfl (qB rfl rfl rfl rfl rfl (cV _ (by exact fits_u64 Om Om)) ?_)
 refine qS rfl rfl rfl rfl (qS rfl rfl rfl rfl (qR (qQ (qJ (ck_fold (b:=b) (ao:=pa) (cap:=pc) (l:=(withL l i (l.getD i 0+1))) (icL t i) Ts (by first | rfl | simp) (ok_with ho hi Om Om) (by rw [tr_with ho hi Om Om,ht,hlg];exact ic_st (by rw [← ht];exact ok_cv ho) hi hlt) ?_)))))
 refine ret2 rfl rfl rfl (()) (by rw [hlg]) (by trivial) ?_
 exact Tf
theorem copy_spec (b:Nat) (t:List Int):Spec Tryz.prog 44 [.pointer (some ⟨b,0,none⟩)] [ckB b t] (fun (r:Nat)=>.pointer (some ⟨r,0,none⟩)) (fun r=>True) (fun r=>[ckB b t,ckB r t]):=by
 refine kQ (n:=13) Tryz.func44 rfl rfl rfl ?_
 intro Γ w0
 simp only [argE,Ca,Na,Zd,Nat.reduceAdd]
 refine qL (qC (.q 0 (.done)) Kr ?_)
 refine qS rfl rfl rfl rfl (qR (qQ (qL (qL (qC (.q 0 (.q 1 (.done))) Kr ?_)))))
 refine qK rfl rfl rfl rfl (cG rfl rfl rfl rfl υ'102 ?_)
 refine kB 4 rfl (v':=.bool false) rfl ?_
 refine qR (qQ (kZ rfl ?_))
 refine qF (qQ (qL (ck_open (b:=b) (t:=t) Tk fun ao cap l ho ht=>?_)))
 have hll:=ho.1
 refine qC ((.l 0 [] (.q 1 (.q 2 (.q 3 (.q 4 ((.l 5 [] (.q 6 ((.l 7 [] (.q 8 (.done))))))))))))) Kr ?_
 refine rC rfl rfl rfl rfl υ'65 ζ'67 ?_
 intro b5
 refine qV (qK rfl rfl rfl rfl (qX rfl rfl rfl rfl (qG (k:=0) rfl rfl rfl rfl υ'153 rfl ζ'65 rfl ?_)))
 refine qP (j:=0) rfl rfl rfl rfl α'65 Tk Az (by rfl) ?_
 refine cS (A:=own 1 encU ao cap l) Tk ?_
 refine own_fc fun f_1a f_1b f_1c=>?_
 refine cS (A:=cells b5 0 []) Tk ?_
 refine cQ (fun _ h=>own_mk (sz:=1) (enc:=encU) (xs:=[]) (sp:=[]) (cap:=0) (Nat.le_refl _) rfl h) ?_
 refine sG (sz:=1) (enc:=encU) (xs:=[]) rfl rfl rfl rfl rfl υ'65 τ'67 rfl rfl rfl (by decide) Tk Tk (by first | rfl | omega | (simp;done) | (simp;omega)) (ys:=l) (rR encU_len (fun h=>(f_1b h).1) f_1c) (by rfl) (by first | rfl | omega) (encU_len) (encU_one) Om (by show _*8≤_;omega) ?_
 intro ao10 cp10
 try simp only [Na]
 refine kB 10 rfl (v':=.slice ao10 l.length cp10) (by first | rfl | (congr 1;done) | (congr 1 <;> first | rfl | omega | (simp;done) | (simp;omega))) ?_
 refine qV (cC rfl rfl rfl rfl (vs:=[_]) (kV υ'153 Tryz.zeroValue153 (ps:=[(0,1)]) ⟨rfl,ζ'65,trivial⟩ rfl) ?_)
 refine sP rfl rfl rfl rfl (us:=[_]) rfl ?_
 intro b12
 refine qV (qS rfl rfl rfl rfl (qR (qW [2] (e':=[(2,_)]) rfl ?_)))
 refine qQ (qJ (ck_fold (b:=b) (ao:=ao) (cap:=cap) (l:=l) t Ts (by first | rfl | simp) ho ht ?_))
 refine ck_fold (b:=b12) (ao:=ao10) (cap:=cp10) (l:=l) t Ts (by first | rfl | simp) ho ht ?_
 refine kD rfl rfl (b12) (by first | rfl | (first | rfl | (congr 1;done) | (congr 1 <;> first | rfl | omega | (simp;done) | (simp;omega)))) (by trivial) ?_
 exact Tf
theorem leq_spec (b c:Nat) (t u:List Int):Spec Tryz.prog 36 [.pointer (some ⟨b,0,none⟩),.pointer (some ⟨c,0,none⟩)] [ckB b t,ckB c u] (fun (_:Unit)=>.bool (decide (LeqL t u))) (fun _=>True) (fun _=>[ckB b t,ckB c u]):=by
 refine kQ (n:=32) Tryz.func36 rfl rfl rfl ?_
 intro Γ w0
 simp only [argE,Ca,Na,Zd,Nat.reduceAdd]
 refine qL (qC (.q 0 (.done)) Kr ?_)
 refine qS rfl rfl rfl rfl (qR (qQ (qL (qL (qC (.q 0 (.q 1 (.q 2 (.q 3 (.q 4 (.q 5 (.done))))))) Kr ?_)))))
 refine qK rfl rfl rfl rfl (cG rfl rfl rfl rfl υ'102 ?_)
 refine kB 7 rfl (v':=.bool false) rfl ?_
 refine qK rfl rfl rfl rfl (qK rfl rfl rfl rfl (cG rfl rfl rfl rfl υ'102 ?_))
 refine kB 10 rfl (v':=.bool false) rfl ?_
 refine kN rfl rfl rfl rfl rfl (qR (qW [0,1,11] (e':=[(0,_),(1,_),(11,_)]) rfl ?_))
 refine qQ (kZ rfl ?_)
 refine qF (qQ (qL (qL (ck_open (b:=b) (t:=t) Tk fun ao cap l ho ht=>?_))))
 have hll:=ho.1
 refine ck_open (b:=c) (t:=u) Tk fun ao2 cap2 l2 ho2 ht2=>?_
 have hll2:=ho2.1
 refine qC (.q 0 (.done)) Kr ?_
 refine qS rfl rfl rfl rfl (qR (qQ (kC ?_)))
 refine cH (α:=Nat) (fun (k:Nat)=>k≤l.length∧(∀ j:Nat,j < k→l.getD j 0≤l2.getD j 0)) (fun (k:Nat)=>[(5,.int .i64 ((k:Nat):Int))]) (fun (k:Nat)=>[]) (fun (k:Nat)=>l.length - k) [0,1] (er:=[(0,_),(1,_)]) rfl (0) ?_ (by exact ⟨rfl,trivial⟩) (by (try dsimp only);(try simp only [Ad,Zd]);(repeat ((with_reducible apply Z2);focus (first | (with_reducible (repeat (first | exact Z0 | apply Z1));done) | (repeat (first | exact Z0 | apply Z1)))));exact Z3) ?_
 · exact ⟨Nat.zero_le _,fun j h=>by omega⟩
 rintro k ⟨hle_k,hI⟩
 try simp only [Ca,Na]
 refine qL (qL (qC (.q 0 (.q 1 (.q 2 (.q 3 (.q 4 (.q 5 (.q 6 (.done)))))))) Kr ?_))
 refine qK rfl rfl rfl rfl (qK rfl rfl rfl rfl (qX rfl rfl rfl rfl (qG (k:=0) rfl rfl rfl rfl υ'153 rfl ζ'65 rfl ?_)))
 refine qP (j:=0) rfl rfl rfl rfl α'65 Tk Az (by rfl) ?_
 refine cJ rfl rfl rfl rfl υ'65 ?_
 refine qB rfl rfl rfl rfl rfl (cB _ _ _ _) ?_
 refine qR (qW [0,1,5,18] (e':=[(0,_),(1,_),(5,_),(18,_)]) rfl ?_)
 refine qQ ?_
 refine qD rfl (fun hlt=>?_) (fun hlt=>?_)
 ·
  refine qF (qQ (qL (kC (qL (kL rfl (.q 0 (.q 1 (.q 2 (.q 3 (.q 4 (.q 5 (.q 6 (.q 7 (.q 8 ((.l 9 [3,6] (.q 10 (.done))))))))))))) Kr ?_)))))
  refine qK rfl rfl rfl rfl (qX rfl rfl rfl rfl (qG (k:=0) rfl rfl rfl rfl υ'153 rfl ζ'65 rfl ?_))
  refine qP (j:=0) rfl rfl rfl rfl α'65 Tk Az (by rfl) ?_
  refine qK rfl rfl rfl rfl ?_
  obtain ⟨x,hx⟩:=cR (l:=l) (i:=k) (by first | omega | (simp;done) | (simp;omega))
  refine kF (sz:=0) (k:=k) (enc:=encU) (xs:=l) rfl rfl rfl rfl rfl υ'65 ζ'67 hx (by first | rfl | omega) Om Tk ?_
  intro ib26 io26 ha26 hl26 hc26
  refine kS (v:=(.int .u64 x)) (j:=0) (k':=k) (enc:=encU) (off:=io26) rfl rfl rfl rfl α'67 ha26 encU_len hx Tk (by first | rfl | exact (Ad _).symm | omega) (by rfl) ?_
  refine qK rfl rfl rfl rfl (qK rfl rfl rfl rfl ?_)
  have sp_1:=Rv.get_open c ao2 cap2 l2 ho2 k
  refine qM rfl rfl rfl rfl rfl rfl κ'77 (sp_1) Ts ?_
  rintro ⟨⟩ -
  try simp only [Ca,Na]
  refine qH (q:=0) rfl rfl rfl α'65 Tk Az (by rfl) ?_
  refine sJ (v:=(.int .u64 x)) (j:=0) (k':=k) (enc:=encU) (off:=io26) rfl rfl rfl α'67 ha26 encU_len hx Tk (by first | rfl | exact (Ad _).symm | omega) (by rfl) ?_
  refine qV (qB rfl rfl rfl rfl rfl (b_gtr _ _ _ _) ?_)
  refine qR (qW [0,1,5,31] (e':=[(0,_),(1,_),(5,_),(31,_)]) rfl ?_)
  refine qQ ?_
  refine qD rfl (fun hc=>?_) (fun hc=>?_)
  ·
   refine qL (qC (.q 0 (.done)) Kr ?_)
   refine qS rfl rfl rfl rfl (qR (qW [4] (e':=[(4,_)]) rfl ?_))
   refine qQ (qJ (kM (qN (qN (kM (qN (ck_fold (b:=b) (ao:=ao) (cap:=cap) (l:=l) t Ts (by first | rfl | simp) ho ht ?_)))))))
   refine ck_fold (b:=c) (ao:=ao2) (cap:=cap2) (l:=l2) u Ts (by first | rfl | simp) ho2 ht2 ?_
   refine kD rfl rfl (()) (by congr 1;symm;rw [decide_eq_false_iff_not,← ht,← ht2,below_iff ho ho2];intro h;have:=h k Om;rw [getD_of hx] at this;omega) (by trivial) ?_
   exact Tf
  refine qF (kX (qQ (qC (.q 0 (.q 1 (.q 2 (.done)))) Kr ?_)))
  refine qK rfl rfl rfl rfl (qB rfl rfl rfl rfl rfl (cV _ (by exact kP Om Om)) ?_)
  refine qS rfl rfl rfl rfl (qR (qQ ?_))
  refine kJ (x:=k) (k+1) ?_ ?_ ?_ ?_
  · exact ⟨by omega,fun j hj=>(by
        by_cases e:j=k
        · subst e;rw [getD_of hx];omega
        · exact hI j Om)⟩
  · show l.length - (k+1) < l.length - k;omega
  · exact ⟨rfl,rfl,rfl,trivial⟩
  · (try simp only [Ca,Na]);exact Tf
 refine cW (qY (qY (kK (qQ (qL (qC (.q 0 (.done)) Kr ?_))))))
 refine qS rfl rfl rfl rfl (qR (qW [4] (e':=[(4,_)]) rfl ?_))
 refine qQ (qJ (ck_fold (b:=b) (ao:=ao) (cap:=cap) (l:=l) t Ts (by first | rfl | simp) ho ht ?_))
 refine ck_fold (b:=c) (ao:=ao2) (cap:=cap2) (l:=l2) u Ts (by first | rfl | simp) ho2 ht2 ?_
 refine kD rfl rfl (()) (by congr 1;symm;rw [decide_eq_true_eq,← ht,← ht2,below_iff ho ho2];intro j hj;exact hI j Om) (by trivial) ?_
 exact Tf
theorem len_open (b:Nat) (ao:Option Addr) (cap:Nat) (l:List Int) (ho:OkV l):Spec Tryz.prog 112 [.pointer (some ⟨b,0,none⟩)] [cells b 0 [.slice ao l.length cap],own 1 encU ao cap l] (fun (_:Unit)=>.int .i64 ((trN l l.length:Nat):Int)) (fun _=>True) (fun _=>[cells b 0 [.slice ao l.length cap],own 1 encU ao cap l]):=by
 refine kQ (n:=28) Tryz.func112 rfl rfl rfl ?_
 intro Γ w0
 simp only [argE,Ca,Na,Zd,Nat.reduceAdd]
 have hll:=ho.1
 refine qL (qC (.q 0 (.done)) Kr ?_)
 refine qS rfl rfl rfl rfl (qR (qQ (qL (qC (.q 0 (.done)) Kr ?_))))
 refine qS rfl rfl rfl rfl (qR (qQ (qL (qL (qC (.q 0 (.q 1 (.done))) Kr ?_)))))
 refine qK rfl rfl rfl rfl (cG rfl rfl rfl rfl υ'102 ?_)
 refine kB 6 rfl (v':=.bool false) rfl ?_
 refine qR (qQ (kZ rfl ?_))
 refine qF (qQ (qL (qL (qC (.q 0 (.done)) Kr ?_))))
 refine qS rfl rfl rfl rfl (qR (qQ (kC ?_)))
 refine cH (α:=Nat) (fun (i:Nat)=>i≤l.length) (fun (i:Nat)=>[(3,.int .i64 ((trN l i:Nat):Int)),(4,.int .i64 ((i:Nat):Int))]) (fun (i:Nat)=>[]) (fun (i:Nat)=>l.length - i) [0] (er:=[(0,_)]) rfl (0) ?_ (by exact ⟨rfl,rfl,trivial⟩) (by (try dsimp only);(try simp only [Ad,Zd]);(repeat ((with_reducible apply Z2);focus (first | (with_reducible (repeat (first | exact Z0 | apply Z1));done) | (repeat (first | exact Z0 | apply Z1)))));exact Z3) ?_
 · exact Nat.zero_le _
 rintro i hle_i
 try simp only [Ca,Na]
 refine qL (qL (qC (.q 0 (.q 1 (.q 2 (.q 3 (.q 4 (.q 5 (.q 6 (.done)))))))) Kr ?_))
 refine qK rfl rfl rfl rfl (qK rfl rfl rfl rfl (qX rfl rfl rfl rfl (qG (k:=0) rfl rfl rfl rfl υ'153 rfl ζ'65 rfl ?_)))
 refine qP (j:=0) rfl rfl rfl rfl α'65 Tk Az (by rfl) ?_
 refine cJ rfl rfl rfl rfl υ'65 ?_
 refine qB rfl rfl rfl rfl rfl (cB _ _ _ _) ?_
 refine qR (qW [0,3,4,14] (e':=[(0,_),(3,_),(4,_),(14,_)]) rfl ?_)
 refine qQ ?_
 refine qD rfl (fun hlt=>?_) (fun hlt=>?_)
 ·
  refine qF (qQ (qL (kC (qL (qC (.q 0 (.q 1 (.q 2 (.q 3 (.q 4 (.q 5 (.q 6 (.q 7 (.done))))))))) Kr ?_)))))
  refine qK rfl rfl rfl rfl (qX rfl rfl rfl rfl (qG (k:=0) rfl rfl rfl rfl υ'153 rfl ζ'65 rfl ?_))
  refine qP (j:=0) rfl rfl rfl rfl α'65 Tk Az (by rfl) ?_
  refine qK rfl rfl rfl rfl ?_
  obtain ⟨x,hx⟩:=cR (l:=l) (i:=i) (by first | omega | (simp;done) | (simp;omega))
  refine kF (sz:=0) (k:=i) (enc:=encU) (xs:=l) rfl rfl rfl rfl rfl υ'65 ζ'67 hx (by first | rfl | omega) Om Tk ?_
  intro ib22 io22 ha22 hl22 hc22
  refine kS (v:=(.int .u64 x)) (j:=0) (k':=i) (enc:=encU) (off:=io22) rfl rfl rfl rfl α'67 ha22 encU_len hx Tk (by first | rfl | exact (Ad _).symm | omega) (by rfl) ?_
  refine qB rfl rfl rfl rfl rfl (b_gtr _ _ _ _) ?_
  refine qR (qW [0,3,4,24] (e':=[(0,_),(3,_),(4,_),(24,_)]) rfl ?_)
  refine qQ ?_
  refine qD rfl (fun hz=>?_) (fun hz=>?_)
  ·
   have hnx:trN l (i+1)=i+1:=by rw [trN_next,if_neg (by rw [getD_of hx];omega)]
   refine qC (.q 0 (.q 1 (.q 2 (.done)))) Kr ?_
   refine qK rfl rfl rfl rfl (qB rfl rfl rfl rfl rfl (cV _ (by exact kP Om Om)) ?_)
   refine qS rfl rfl rfl rfl (qR (kX (qQ (qC (.q 0 (.q 1 (.q 2 (.done)))) Kr ?_))))
   refine qK rfl rfl rfl rfl (qB rfl rfl rfl rfl rfl (cV _ (by exact kP Om Om)) ?_)
   refine qS rfl rfl rfl rfl (qR (qW [0,3,4] (e':=[(0,_),(3,_),(4,_)]) rfl ?_))
   refine qQ (kB 3 rfl (v':=.int .i64 ((trN l (i+1):Nat):Int)) (by rw [hnx];try rfl) ?_)
   refine kJ (x:=i) (i+1) ?_ ?_ ?_ ?_
   · exact by show i+1≤l.length;omega
   · show l.length - (i+1) < l.length - i;omega
   · exact ⟨rfl,rfl,rfl,trivial⟩
   · (try simp only [Ca,Na]);exact Tf
  have hxr:=ho.2 x (List.mem_of_getElem? hx)
  have hnx:trN l (i+1)=trN l i:=by rw [trN_next,if_pos (by rw [getD_of hx];omega)]
  refine qF (kX (qQ (qC (.q 0 (.q 1 (.q 2 (.done)))) Kr ?_)))
  refine qK rfl rfl rfl rfl (qB rfl rfl rfl rfl rfl (cV _ (by exact kP Om Om)) ?_)
  refine qS rfl rfl rfl rfl (qR (qQ (kB 3 rfl (v':=.int .i64 ((trN l (i+1):Nat):Int)) (by rw [hnx];try rfl) ?_)))
  refine kJ (x:=i) (i+1) ?_ ?_ ?_ ?_
  · exact by show i+1≤l.length;omega
  · show l.length - (i+1) < l.length - i;omega
  · exact ⟨rfl,rfl,rfl,trivial⟩
  · (try simp only [Ca,Na]);exact Tf
 refine cW (qY (qY (kK (qQ (qL (qC (.q 0 (.q 1 (.done))) Kr ?_))))))
 refine qK rfl rfl rfl rfl (qS rfl rfl rfl rfl (qR (qW [2] (e':=[(2,_)]) rfl ?_)))
 refine qQ (qJ (kD rfl rfl (()) (by rw [show i=l.length from by omega]) (by trivial) ?_))
 exact Tf
theorem list_spec (b:Nat) (t:List Int):Spec Tryz.prog 93 [.pointer (some ⟨b,0,none⟩)] [ckB b t] (fun (r:Option Addr × Nat)=>.slice r.1 t.length r.2) (fun r=>True) (fun r=>[ckB b t,own 1 encU r.1 r.2 t]):=by
 refine kQ (n:=14) Tryz.func93 rfl rfl rfl ?_
 intro Γ w0
 simp only [argE,Ca,Na,Zd,Nat.reduceAdd]
 refine qL (qC (.q 0 (.done)) Kr ?_)
 refine qS rfl rfl rfl rfl (qR (qQ (qL (qL (qC (.q 0 (.q 1 (.done))) Kr ?_)))))
 refine qK rfl rfl rfl rfl (cG rfl rfl rfl rfl υ'102 ?_)
 refine kB 4 rfl (v':=.bool false) rfl ?_
 refine qR (qQ (kZ rfl ?_))
 refine qF (qQ (qL (ck_open (b:=b) (t:=t) Tk fun ao cap l ho ht=>?_)))
 have hll:=ho.1
 have htl:=trN_le l l.length
 refine kL rfl (.q 1 (.q 2 (.q 3 (.q 4 (.q 5 ((.alt (.l 0 [4] ((.l 6 [4] (.q 7 ((.l 8 [] (.q 9 (.done)))))))) (.l 6 [4] (.q 7 ((.l 0 [4] ((.l 8 [] (.q 9 (.done))))))))))))))) Kr ?_
 refine qK rfl rfl rfl rfl (qX rfl rfl rfl rfl (qG (k:=0) rfl rfl rfl rfl υ'153 rfl ζ'65 rfl ?_))
 refine qP (j:=0) rfl rfl rfl rfl α'65 Tk Az (by rfl) ?_
 refine qK rfl rfl rfl rfl ?_
 refine r_alt ?_ ?_
 ·
  refine rC rfl rfl rfl rfl υ'65 ζ'67 ?_
  intro b5
  refine qH (q:=0) rfl rfl rfl α'65 Tk Az (by rfl) ?_
  refine qV ?_
  have sp_1:=Rv.len_open b ao cap l ho
  refine qM rfl rfl rfl rfl rfl rfl Tryz.call112 (sp_1) Ts ?_
  rintro ⟨⟩ -
  try simp only [Ca,Na]
  refine qH (q:=0) rfl rfl rfl α'65 Tk Az (by rfl) ?_
  refine qV (cS (A:=own 1 encU ao cap l) Tk ?_)
  refine own_fc fun f_2a f_2b f_2c=>?_
  refine q_cut_hi (h':=trN l l.length) rfl rfl rfl rfl rfl υ'65 ζ'67 (by first | rfl | omega) (by first | omega | (have hcap_:=f_2a;simp only [List.length_append,List.length_map,List.length_replicate,List.length_cons,List.length_nil] at hcap_;omega)) ?_
  refine cS (A:=cells b5 0 []) Tk ?_
  refine cQ (fun _ h=>own_mk (sz:=1) (enc:=encU) (xs:=[]) (sp:=[]) (cap:=0) (Nat.le_refl _) rfl h) ?_
  refine sG (sz:=1) (enc:=encU) (xs:=[]) rfl rfl rfl rfl rfl υ'65 τ'67 rfl rfl rfl (by decide) Tk Tk (by first | rfl | omega | (simp;done) | (simp;omega)) (ys:=(l.take (trN l l.length))) (rds_take (rR encU_len (fun h=>(f_2b h).1) f_2c) encU_len (trN l l.length)) (by rfl) (by rw [List.length_take,Nat.min_eq_left htl]) (encU_len) (encU_one) Om (by show _*8≤_;omega) ?_
  intro ao13 cp13
  try simp only [Na]
  refine kB 13 rfl (v':=.slice ao13 (trN l l.length) cp13) (by first | rfl | (congr 1;done) | (congr 1 <;> first | rfl | omega | (simp;done) | (simp;omega))) ?_
  refine qV (qS rfl rfl rfl rfl (qR (qW [2] (e':=[(2,_)]) rfl ?_)))
  refine qQ (qJ (ck_fold (b:=b) (ao:=ao) (cap:=cap) (l:=l) t Ts (by first | rfl | simp) ho ht ?_))
  rw [show l.take (trN l l.length)=t from ht]
  refine kD rfl rfl ((ao13,cp13)) (by rw [← ht,tr_len]) (by trivial) ?_
  exact Tf
 have sp_3:=Rv.len_open b ao cap l ho
 refine qM rfl rfl rfl rfl rfl rfl Tryz.call112 (sp_3) Ts ?_
 rintro ⟨⟩ -
 try simp only [Ca,Na]
 refine qH (q:=0) rfl rfl rfl α'65 Tk Az (by rfl) ?_
 refine qV (cS (A:=own 1 encU ao cap l) Tk ?_)
 refine own_fc fun f_4a f_4b f_4c=>?_
 refine q_cut_hi (h':=trN l l.length) rfl rfl rfl rfl rfl υ'65 ζ'67 (by first | rfl | omega) (by first | omega | (have hcap_:=f_4a;simp only [List.length_append,List.length_map,List.length_replicate,List.length_cons,List.length_nil] at hcap_;omega)) ?_
 refine rC rfl rfl rfl rfl υ'65 ζ'67 ?_
 intro b5
 refine qH (q:=0) rfl rfl rfl α'65 Tk Az (by rfl) ?_
 refine qV (cS (A:=cells b5 0 []) Tk ?_)
 refine cQ (fun _ h=>own_mk (sz:=1) (enc:=encU) (xs:=[]) (sp:=[]) (cap:=0) (Nat.le_refl _) rfl h) ?_
 refine sG (sz:=1) (enc:=encU) (xs:=[]) rfl rfl rfl rfl rfl υ'65 τ'67 rfl rfl rfl (by decide) Tk Tk (by first | rfl | omega | (simp;done) | (simp;omega)) (ys:=(l.take (trN l l.length))) (rds_take (rR encU_len (fun h=>(f_4b h).1) f_4c) encU_len (trN l l.length)) (by rfl) (by rw [List.length_take,Nat.min_eq_left htl]) (encU_len) (encU_one) Om (by show _*8≤_;omega) ?_
 intro ao13 cp13
 try simp only [Na]
 refine kB 13 rfl (v':=.slice ao13 (trN l l.length) cp13) (by first | rfl | (congr 1;done) | (congr 1 <;> first | rfl | omega | (simp;done) | (simp;omega))) ?_
 refine qV (qS rfl rfl rfl rfl (qR (qW [2] (e':=[(2,_)]) rfl ?_)))
 refine qQ (qJ (ck_fold (b:=b) (ao:=ao) (cap:=cap) (l:=l) t Ts (by first | rfl | simp) ho ht ?_))
 rw [show l.take (trN l l.length)=t from ht]
 refine kD rfl rfl ((ao13,cp13)) (by rw [← ht,tr_len]) (by trivial) ?_
 exact Tf
end Go.Ab.Rv
set_option linter.unusedVariables false
set_option linter.unusedSimpArgs false
set_option maxRecDepth 100000
namespace Go.Ab.Fe
open Go Go.Proofs Go.Ab
/-- The document's checker at b. -/
def rk (pa:Option Addr) (pc b:Nat) (x:CS):HProp:=fun h=>∃ ta tc oa oc ba bc,Sat [cells b 0 [.int .i64 x.th,.int .i64 x.va,.int .i64 x.vo,.int .i64 x.lk,.slice pa x.pa.length pc,.slice ta x.T.length tc,.slice oa x.O.length oc,.slice ba x.B.length bc,.int .i64 x.n],own 3 enc3 ta tc x.T,own 1 encZ oa oc x.O,own 2 enc2 ba bc x.B] h
section
variable {w0:World} {ds:List Deferred} {n:Nat} {e:Env} {Γ:List HProp} {X:Act→World→Prop}
theorem rk_open {pa:Option Addr} {pc b:Nat} {x:CS} (k:∀ ta tc oa oc ba bc,Le (St w0 ds n e (cells b 0 [.int .i64 x.th,.int .i64 x.va,.int .i64 x.vo,.int .i64 x.lk,.slice pa x.pa.length pc,.slice ta x.T.length tc,.slice oa x.O.length oc,.slice ba x.B.length bc,.int .i64 x.n]::own 3 enc3 ta tc x.T::own 1 encZ oa oc x.O::own 2 enc2 ba bc x.B::Γ)) X):Le (St w0 ds n e (rk pa pc b x::Γ)) X:=fun a w s=>by
  obtain ⟨h1,l1,⟨ta,tc,oa,oc,ba,bc,a1⟩,s1⟩:=s.heap
  exact k ta tc oa oc ba bc a w ⟨s.defers,s.size,s.env,Bun.unfold ⟨h1,l1,a1,s1⟩,s.amb⟩
theorem rk_fold {Γ':List HProp} {b:Nat} (x:CS) {pn tn on bn:Nat} {pa:Option Addr} {pc:Nat} {ta oa ba:Option Addr} {tc oc bc:Nat}
    (tk:Takes Γ [cells b 0 [.int .i64 x.th,.int .i64 x.va,.int .i64 x.vo,.int .i64 x.lk,.slice pa pn pc,.slice ta tn tc,.slice oa on oc,.slice ba bn bc,.int .i64 x.n],own 3 enc3 ta tc x.T,own 1 encZ oa oc x.O,own 2 enc2 ba bc x.B] Γ') (h1:pn=x.pa.length) (h2:tn=x.T.length) (h3:on=x.O.length) (h4:bn=x.B.length)
    (k:Le (St w0 ds n e (rk pa pc b x::Γ')) X):Le (St w0 ds n e Γ) X:=cQ (fun h s=>by
  subst h1 h2 h3 h4
  obtain ⟨h1,l1,a1,s1⟩:=Bun.fold (tk h s)
  exact ⟨h1,l1,⟨ta,tc,oa,oc,ba,bc,a1⟩,s1⟩) k
end
theorem can_run' {x:CS} {k t o:Int} (h:(stF x t).1=1):canF x k t o↔0≤o∧okK x k t o:=by
  unfold canF;rw [h];simp
theorem owF_n {x:CS} {o:Int}:owF x o=none↔owV x o=-1:=by
  unfold owF;split
  · rename_i h;simp [h]
  · rename_i h;simp [h]
theorem owF_s {x:CS} {o t:Int} (ht:t≠-1):owF x o=some t↔owV x o=t:=by
  unfold owF;split
  · rename_i h;rw [h];simp;omega
  · simp
theorem can_out {x:CS} {k t o:Int} (h:¬ (0≤t∧t < (x.T.length:Int))):¬ canF x k t o:=fun hc=>by
  have:=stF_nz (can_th hc);omega
theorem full_out {x:CS} {t:Int} (h:¬ (0≤t∧t < (x.T.length:Int))):¬ fullF x t:=fun hc=>by
  have:=stF_nz (x:=x) (t:=t) (by rw [hc.1];decide);omega
theorem take_next {α:Type} {l:List α} {i:Nat} {a:α} (h:l[i]?=some a):l.take (i+1)=l.take i++[a]:=by
  rw [List.take_add_one,h];rfl
theorem below_spec (i m:Int):Spec Tryz.prog 103 [.int .i64 i,.int .i64 m] [] (fun (_:Unit)=>.bool (decide (0≤i∧i < m))) (fun _=>True) (fun _=>[]):=by
 refine kQ (n:=12) Tryz.func103 rfl rfl rfl ?_
 intro Γ w0
 simp only [argE,Ca,Na,Zd,Nat.reduceAdd]
 refine qL (qC (.q 0 (.done)) Kr ?_)
 refine qS rfl rfl rfl rfl (qR (qQ (qL (qC (.q 0 (.q 1 (.q 2 (.q 3 (.q 4 (.q 5 (.q 6 (.q 7 (.done))))))))) Kr ?_))))
 refine qK rfl rfl rfl rfl (qB rfl rfl rfl rfl rfl (b_geq _ _ _ _) ?_)
 refine qK rfl rfl rfl rfl ?_
 refine cF 7 rfl (fun g_1=>?_) (fun g_1=>?_)
 ·
  refine qK rfl rfl rfl rfl (qK rfl rfl rfl rfl (qB rfl rfl rfl rfl rfl (cB _ _ _ _) ?_))
  refine kW rfl rfl rfl rfl rfl (qS rfl rfl rfl rfl (qR (qW [4] (e':=[(4,_)]) rfl ?_)))
  refine qQ (qJ (kD rfl rfl (()) (by congr 1;first | (rw [decide_eq_decide];omega) | (symm;rw [decide_eq_false_iff_not];omega)) (by trivial) ?_))
  exact Tf
 refine qZ rfl rfl rfl rfl (qZ rfl rfl rfl rfl (qZ rfl rfl rfl rfl (kN rfl rfl rfl rfl rfl (qS rfl rfl rfl rfl (qR (qW [4] (e':=[(4,_)]) rfl ?_))))))
 refine qQ (qJ (kD rfl rfl (()) (by congr 1;first | (rw [decide_eq_decide];omega) | (symm;rw [decide_eq_false_iff_not];omega)) (by trivial) ?_))
 exact Tf
theorem count_spec (i:Int):Spec Tryz.prog 116 [.int .i64 i] [] (fun (_:Unit)=>.bool (decide (0≤i∧i≤4096))) (fun _=>True) (fun _=>[]):=by
 refine kQ (n:=9) Tryz.func116 rfl rfl rfl ?_
 intro Γ w0
 simp only [argE,Ca,Na,Zd,Nat.reduceAdd]
 refine qL (qC (.q 0 (.done)) Kr ?_)
 refine qS rfl rfl rfl rfl (qR (qQ (qL (qC (.q 0 (.q 1 (.q 2 (.q 3 (.q 4 (.q 5 (.q 6 (.done)))))))) Kr ?_))))
 refine qK rfl rfl rfl rfl (qB rfl rfl rfl rfl rfl (b_geq _ _ _ _) ?_)
 refine qK rfl rfl rfl rfl ?_
 refine cF 5 rfl (fun g_1=>?_) (fun g_1=>?_)
 ·
  refine qK rfl rfl rfl rfl (qB rfl rfl rfl rfl rfl (b_leq _ _ _ _) ?_)
  refine kW rfl rfl rfl rfl rfl (qS rfl rfl rfl rfl (qR (qW [2] (e':=[(2,_)]) rfl ?_)))
  refine qQ (qJ (kD rfl rfl (()) (by congr 1;first | (rw [decide_eq_decide];omega) | (symm;rw [decide_eq_false_iff_not];omega)) (by trivial) ?_))
  exact Tf
 refine qZ rfl rfl rfl rfl (qZ rfl rfl rfl rfl (kN rfl rfl rfl rfl rfl (qS rfl rfl rfl rfl (qR (qW [2] (e':=[(2,_)]) rfl ?_)))))
 refine qQ (qJ (kD rfl rfl (()) (by congr 1;first | (rw [decide_eq_decide];omega) | (symm;rw [decide_eq_false_iff_not];omega)) (by trivial) ?_))
 exact Tf
theorem rshape_spec (th va vo lk:Int) (pl:List Int) (ao:Option Addr) (n c:Nat) (A:HProp) (hr:RdS A ao (pl.flatMap encZ)) (hn:pl.length=n) (hb:n≤4000000):Spec Tryz.prog 102 [.agg #[.int .i64 th,.int .i64 va,.int .i64 vo,.int .i64 lk,.slice ao n c]] [A] (fun (_:Unit)=>.int .i64 (if OkS th va vo lk pl then 0 else 5)) (fun _=>True) (fun _=>[A]):=by
 refine kQ (n:=58) Tryz.func102 rfl rfl rfl ?_
 intro Γ w0
 simp only [argE,Ca,Na,Zd,Nat.reduceAdd]
 refine qL (qC ((.l 0 [] (.q 1 (.done)))) Kr ?_)
 refine sP rfl rfl rfl rfl (us:=[_,_,_,_,_]) rfl ?_
 intro b1
 refine qV (qS rfl rfl rfl rfl (qR (qQ (qL (qL (qC (.q 0 (.q 1 (.q 2 (.q 3 (.q 4 (.q 5 (.q 6 (.q 7 (.q 8 (.q 9 (.q 10 ((.l 11 [] (.q 12 (.q 13 (.q 14 (.q 15 (.q 16 ((.l 17 [] (.q 18 (.q 19 (.q 20 (.q 21 (.q 22 ((.l 23 [] (.q 24 (.q 25 (.q 26 (.q 27 (.q 28 (.q 29 ((.l 30 [] (.q 31 (.q 32 (.done)))))))))))))))))))))))))))))))))))))) Kr ?_))))))
 refine qG (k:=0) rfl rfl rfl rfl υ'24 rfl ζ'3 rfl ?_
 refine qP (j:=0) rfl rfl rfl rfl α'3 Tk Az (by rfl) ?_
 refine qB rfl rfl rfl rfl rfl (cB _ _ _ _) ?_
 refine qK rfl rfl rfl rfl ?_
 refine cF 7 rfl (fun h1=>?_) (fun h1=>?_)
 ·
  refine qZ rfl rfl rfl rfl (qZ rfl rfl rfl rfl (qZ rfl rfl rfl rfl (kW rfl rfl rfl rfl rfl (qK rfl rfl rfl rfl (qZ rfl rfl rfl rfl (qZ rfl rfl rfl rfl (rS rfl rfl rfl rfl ?_)))))))
  refine qZ rfl rfl rfl rfl (kW rfl rfl rfl rfl rfl (qK rfl rfl rfl rfl (qZ rfl rfl rfl rfl (qZ rfl rfl rfl rfl (rS rfl rfl rfl rfl ?_)))))
  refine qZ rfl rfl rfl rfl (kW rfl rfl rfl rfl rfl (qK rfl rfl rfl rfl (qZ rfl rfl rfl rfl (qZ rfl rfl rfl rfl (rS rfl rfl rfl rfl ?_)))))
  refine qZ rfl rfl rfl rfl (kW rfl rfl rfl rfl rfl (qK rfl rfl rfl rfl (qZ rfl rfl rfl rfl (qZ rfl rfl rfl rfl (qZ rfl rfl rfl rfl (rS rfl rfl rfl rfl ?_))))))
  refine qZ rfl rfl rfl rfl (kW rfl rfl rfl rfl rfl (qR (qW [1,36] (e':=[(1,_),(36,_)]) rfl ?_)))
  refine qQ (cK rfl ?_)
  refine qL (qC (.q 0 (.done)) Kr ?_)
  refine qS rfl rfl rfl rfl (qR (qQ (qJ (qN (kD rfl rfl (()) (by rw [if_neg (fun h=>by have h1:=h.th;have h2:=h.va;have h3:=h.vo;have h4:=h.lk;have h5:=h.pl;omega)]) (by trivial) ?_)))))
  exact Tf
 refine qG (k:=0) rfl rfl rfl rfl υ'24 rfl ζ'3 rfl ?_
 refine qP (j:=0) rfl rfl rfl rfl α'3 Tk Az (by rfl) ?_
 refine qB rfl rfl rfl rfl rfl (b_gtr _ _ _ _) ?_
 refine kN rfl rfl rfl rfl rfl (qK rfl rfl rfl rfl ?_)
 refine cF 12 rfl (fun h2=>?_) (fun h2=>?_)
 ·
  refine qZ rfl rfl rfl rfl (qZ rfl rfl rfl rfl (rS rfl rfl rfl rfl ?_))
  refine qZ rfl rfl rfl rfl (kW rfl rfl rfl rfl rfl (qK rfl rfl rfl rfl (qZ rfl rfl rfl rfl (qZ rfl rfl rfl rfl (rS rfl rfl rfl rfl ?_)))))
  refine qZ rfl rfl rfl rfl (kW rfl rfl rfl rfl rfl (qK rfl rfl rfl rfl (qZ rfl rfl rfl rfl (qZ rfl rfl rfl rfl (rS rfl rfl rfl rfl ?_)))))
  refine qZ rfl rfl rfl rfl (kW rfl rfl rfl rfl rfl (qK rfl rfl rfl rfl (qZ rfl rfl rfl rfl (qZ rfl rfl rfl rfl (qZ rfl rfl rfl rfl (rS rfl rfl rfl rfl ?_))))))
  refine qZ rfl rfl rfl rfl (kW rfl rfl rfl rfl rfl (qR (qW [1,36] (e':=[(1,_),(36,_)]) rfl ?_)))
  refine qQ (cK rfl ?_)
  refine qL (qC (.q 0 (.done)) Kr ?_)
  refine qS rfl rfl rfl rfl (qR (qQ (qJ (qN (kD rfl rfl (()) (by rw [if_neg (fun h=>by have h1:=h.th;have h2:=h.va;have h3:=h.vo;have h4:=h.lk;have h5:=h.pl;omega)]) (by trivial) ?_)))))
  exact Tf
 refine qG (k:=1) rfl rfl rfl rfl υ'24 rfl ζ'3 rfl ?_
 refine qP (j:=1) rfl rfl rfl rfl α'3 Tk Az (by rfl) ?_
 have sp_1:=count_spec va
 refine qM rfl rfl rfl rfl rfl rfl κ'116 (sp_1) Ts ?_
 rintro ⟨⟩ -
 try simp only [Ca,Na]
 refine qV (sY rfl rfl rfl rfl ?_)
 refine kN rfl rfl rfl rfl rfl (qK rfl rfl rfl rfl ?_)
 refine s_bool_np 18 rfl (fun h3=>?_) (fun h3=>?_)
 ·
  refine qZ rfl rfl rfl rfl (qZ rfl rfl rfl rfl (rS rfl rfl rfl rfl ?_))
  refine qZ rfl rfl rfl rfl (kW rfl rfl rfl rfl rfl (qK rfl rfl rfl rfl (qZ rfl rfl rfl rfl (qZ rfl rfl rfl rfl (rS rfl rfl rfl rfl ?_)))))
  refine qZ rfl rfl rfl rfl (kW rfl rfl rfl rfl rfl (qK rfl rfl rfl rfl (qZ rfl rfl rfl rfl (qZ rfl rfl rfl rfl (qZ rfl rfl rfl rfl (rS rfl rfl rfl rfl ?_))))))
  refine qZ rfl rfl rfl rfl (kW rfl rfl rfl rfl rfl (qR (qW [1,36] (e':=[(1,_),(36,_)]) rfl ?_)))
  refine qQ (cK rfl ?_)
  refine qL (qC (.q 0 (.done)) Kr ?_)
  refine qS rfl rfl rfl rfl (qR (qQ (qJ (qN (kD rfl rfl (()) (by rw [if_neg (fun h=>by have h1:=h.th;have h2:=h.va;have h3:=h.vo;have h4:=h.lk;have h5:=h.pl;omega)]) (by trivial) ?_)))))
  exact Tf
 refine qG (k:=2) rfl rfl rfl rfl υ'24 rfl ζ'3 rfl ?_
 refine qP (j:=2) rfl rfl rfl rfl α'3 Tk Az (by rfl) ?_
 have sp_2:=count_spec vo
 refine qM rfl rfl rfl rfl rfl rfl κ'116 (sp_2) Ts ?_
 rintro ⟨⟩ -
 try simp only [Ca,Na]
 refine qV (sY rfl rfl rfl rfl ?_)
 refine kN rfl rfl rfl rfl rfl (qK rfl rfl rfl rfl ?_)
 refine s_bool_np 24 rfl (fun h4=>?_) (fun h4=>?_)
 ·
  refine qZ rfl rfl rfl rfl (qZ rfl rfl rfl rfl (rS rfl rfl rfl rfl ?_))
  refine qZ rfl rfl rfl rfl (kW rfl rfl rfl rfl rfl (qK rfl rfl rfl rfl (qZ rfl rfl rfl rfl (qZ rfl rfl rfl rfl (qZ rfl rfl rfl rfl (rS rfl rfl rfl rfl ?_))))))
  refine qZ rfl rfl rfl rfl (kW rfl rfl rfl rfl rfl (qR (qW [1,36] (e':=[(1,_),(36,_)]) rfl ?_)))
  refine qQ (cK rfl ?_)
  refine qL (qC (.q 0 (.done)) Kr ?_)
  refine qS rfl rfl rfl rfl (qR (qQ (qJ (qN (kD rfl rfl (()) (by rw [if_neg (fun h=>by have h1:=h.th;have h2:=h.va;have h3:=h.vo;have h4:=h.lk;have h5:=h.pl;omega)]) (by trivial) ?_)))))
  exact Tf
 refine qG (k:=3) rfl rfl rfl rfl υ'24 rfl ζ'3 rfl ?_
 refine qP (j:=3) rfl rfl rfl rfl α'3 Tk Az (by rfl) ?_
 have sp_3:=count_spec lk
 refine qM rfl rfl rfl rfl rfl rfl κ'116 (sp_3) Ts ?_
 rintro ⟨⟩ -
 try simp only [Ca,Na]
 refine qV (sY rfl rfl rfl rfl ?_)
 refine kN rfl rfl rfl rfl rfl (qK rfl rfl rfl rfl ?_)
 refine s_bool_np 30 rfl (fun h5=>?_) (fun h5=>?_)
 ·
  refine qZ rfl rfl rfl rfl (qZ rfl rfl rfl rfl (qZ rfl rfl rfl rfl (rS rfl rfl rfl rfl ?_)))
  refine qZ rfl rfl rfl rfl (kW rfl rfl rfl rfl rfl (qR (qW [1,36] (e':=[(1,_),(36,_)]) rfl ?_)))
  refine qQ (cK rfl ?_)
  refine qL (qC (.q 0 (.done)) Kr ?_)
  refine qS rfl rfl rfl rfl (qR (qQ (qJ (qN (kD rfl rfl (()) (by rw [if_neg (fun h=>by have h1:=h.th;have h2:=h.va;have h3:=h.vo;have h4:=h.lk;have h5:=h.pl;omega)]) (by trivial) ?_)))))
  exact Tf
 refine qG (k:=4) rfl rfl rfl rfl υ'24 rfl ζ'22 rfl ?_
 refine qP (j:=4) rfl rfl rfl rfl α'22 Tk Az (by rfl) ?_
 refine cJ rfl rfl rfl rfl υ'22 ?_
 have sp_4:=count_spec ((n:Nat):Int)
 refine qM rfl rfl rfl rfl rfl rfl κ'116 (sp_4) Ts ?_
 rintro ⟨⟩ -
 try simp only [Ca,Na]
 refine qV (sY rfl rfl rfl rfl ?_)
 refine kN rfl rfl rfl rfl rfl (qR (qW [1,36] (e':=[(1,_),(36,_)]) rfl ?_))
 refine qQ ?_
 refine c_cond_np rfl (fun h6=>?_) (fun h6=>?_)
 ·
  refine qL (qC (.q 0 (.done)) Kr ?_)
  refine qS rfl rfl rfl rfl (qR (qQ (qJ (qN (kD rfl rfl (()) (by rw [if_neg (fun h=>by have h1:=h.th;have h2:=h.va;have h3:=h.vo;have h4:=h.lk;have h5:=h.pl;omega)]) (by trivial) ?_)))))
  exact Tf
 refine qF (qQ (qL (qL (qC (.q 0 (.done)) Kr ?_))))
 refine qS rfl rfl rfl rfl (qR (qQ (kC ?_)))
 refine cH (α:=Nat) (fun (i:Nat)=>i≤n∧(∀ (j:Nat) (p:Int),j < i→pl[j]?=some p→badP p=false)) (fun (i:Nat)=>[(3,.int .i64 ((i:Nat):Int))]) (fun (i:Nat)=>[]) (fun (i:Nat)=>n - i) [1] (er:=[(1,_)]) rfl (0) ?_ (by exact ⟨rfl,trivial⟩) (by (try dsimp only);(try simp only [Ad,Zd]);(repeat ((with_reducible apply Z2);focus (first | (with_reducible (repeat (first | exact Z0 | apply Z1));done) | (repeat (first | exact Z0 | apply Z1)))));exact Z3) ?_
 · exact ⟨Nat.zero_le _,fun j p h=>by omega⟩
 rintro i ⟨hle_i,hI⟩
 try simp only [Ca,Na]
 refine qL (qL (qC (.q 0 (.q 1 (.q 2 (.q 3 (.q 4 (.done)))))) Kr ?_))
 refine qK rfl rfl rfl rfl (qG (k:=4) rfl rfl rfl rfl υ'24 rfl ζ'22 rfl ?_)
 refine qP (j:=4) rfl rfl rfl rfl α'22 Tk Az (by rfl) ?_
 refine cJ rfl rfl rfl rfl υ'22 ?_
 refine qB rfl rfl rfl rfl rfl (cB _ _ _ _) ?_
 refine qR (qW [1,3,41] (e':=[(1,_),(3,_),(41,_)]) rfl ?_)
 refine qQ ?_
 refine qD rfl (fun hlt=>?_) (fun hlt=>?_)
 ·
  refine qF (qQ (qL (kC (qL ?_))))
  obtain ⟨p,hp⟩:=cR (l:=pl) (i:=i) Om
  refine qC (.q 0 (.q 1 (.q 2 (.q 3 (.q 4 (.q 5 (.q 6 (.q 7 (.q 8 (.q 9 (.q 10 (.q 11 (.q 12 (.q 13 (.done))))))))))))))) Kr ?_
  refine qG (k:=4) rfl rfl rfl rfl υ'24 rfl ζ'22 rfl ?_
  refine qP (j:=4) rfl rfl rfl rfl α'22 Tk Az (by rfl) ?_
  refine qK rfl rfl rfl rfl (q_idxR (sz:=0) (k:=i) rfl rfl rfl rfl rfl υ'22 ζ'3 (hr) hp encZ_len (by first | rfl | omega) Om ?_)
  intro ib47 io47 _ hd47
  refine q_load rfl rfl rfl rfl α'3 Tk (hd47 0 (.int .i64 p) rfl) ?_
  refine qB rfl rfl rfl rfl rfl (cB _ _ _ _) ?_
  refine qK rfl rfl rfl rfl ?_
  refine cF 50 rfl (fun hp1=>?_) (fun hp1=>?_)
  ·
   refine qZ rfl rfl rfl rfl (qZ rfl rfl rfl rfl (qZ rfl rfl rfl rfl (qZ rfl rfl rfl rfl (qZ rfl rfl rfl rfl (qZ rfl rfl rfl rfl (kW rfl rfl rfl rfl rfl (qR (qW [1,3,51,52,53,54,55,56,57] (e':=[(1,_),(3,_),(51,_),(52,_),(53,_),(54,_),(55,_),(56,_),(57,_)]) rfl ?_))))))))
   refine qQ (cK rfl ?_)
   have hno:¬ OkS th va vo lk pl:=fun h=>by
     have:=h.pa p (List.mem_of_getElem? hp);omega
   refine qL (qC (.q 0 (.done)) Kr ?_)
   refine qS rfl rfl rfl rfl (qR (qW [2] (e':=[(2,_)]) rfl ?_))
   refine qQ (qJ (kM (qN (qN (kM (qN (kD rfl rfl (()) (by rw [if_neg hno]) (by trivial) ?_)))))))
   exact Tf
  refine qG (k:=4) rfl rfl rfl rfl υ'24 rfl ζ'22 rfl ?_
  refine qP (j:=4) rfl rfl rfl rfl α'22 Tk Az (by rfl) ?_
  refine qK rfl rfl rfl rfl (q_idxR (sz:=0) (k:=i) rfl rfl rfl rfl rfl υ'22 ζ'3 (hr) hp encZ_len (by first | rfl | omega) Om ?_)
  intro ib54 io54 _ hd54
  refine q_load rfl rfl rfl rfl α'3 Tk (hd54 0 (.int .i64 p) rfl) ?_
  refine qB rfl rfl rfl rfl rfl (b_gtr _ _ _ _) ?_
  refine kN rfl rfl rfl rfl rfl (qR (qW [1,3,51,52,53,54,55,56,57] (e':=[(1,_),(3,_),(51,_),(52,_),(53,_),(54,_),(55,_),(56,_),(57,_)]) rfl ?_))
  refine qQ ?_
  refine qD rfl (fun hp2=>?_) (fun hp2=>?_)
  ·
   have hno:¬ OkS th va vo lk pl:=fun h=>by
     have:=h.pa p (List.mem_of_getElem? hp);omega
   refine qL (qC (.q 0 (.done)) Kr ?_)
   refine qS rfl rfl rfl rfl (qR (qW [2] (e':=[(2,_)]) rfl ?_))
   refine qQ (qJ (kM (qN (qN (kM (qN (kD rfl rfl (()) (by rw [if_neg hno]) (by trivial) ?_)))))))
   exact Tf
  have hgood:badP p=false:=by simp only [badP,Bool.or_eq_false_iff,decide_eq_false_iff_not];omega
  refine qF (kX (qQ (qC (.q 0 (.q 1 (.q 2 (.done)))) Kr ?_)))
  refine qK rfl rfl rfl rfl (qB rfl rfl rfl rfl rfl (cV _ (by exact kP Om Om)) ?_)
  refine qS rfl rfl rfl rfl (qR (qQ ?_))
  refine kJ (x:=i) (i+1) ?_ ?_ ?_ ?_
  · exact ⟨by omega,fun j q hj hq=>(by
        by_cases h:j=i
        · subst h;rw [hp] at hq;cases hq;exact hgood
        · exact hI j q Om hq)⟩
  · show n - (i+1) < n - i;omega
  · exact ⟨rfl,rfl,trivial⟩
  · (try simp only [Ca,Na]);exact Tf
 refine cW (qY (qY (kK (qQ (qL (qC (.q 0 (.done)) Kr ?_))))))
 refine qS rfl rfl rfl rfl (qR (qQ (qJ ?_)))
 refine kD rfl rfl (()) (by rw [if_pos (okS_iff.2 ⟨by omega,by omega,by omega,by omega,by omega,fun p q=>by
   obtain ⟨j,hj⟩:=List.getElem?_of_mem q
   exact hI j p (by have:=(List.getElem?_eq_some_iff.1 hj).1;omega) hj⟩)]) (by trivial) ?_
 exact Tf
theorem rfull_spec (pa:Option Addr) (pc b:Nat) (x:CS) (hx:CInv x) (t:Int):Spec Tryz.prog 104 [.pointer (some ⟨b,0,none⟩),.int .i64 t] [rk pa pc b x] (fun (_:Unit)=>.bool (decide (fullF x t))) (fun _=>True) (fun _=>[rk pa pc b x]):=by
 refine kQ (n:=42) Tryz.func104 rfl rfl rfl ?_
 intro Γ w0
 simp only [argE,Ca,Na,Zd,Nat.reduceAdd]
 refine qL (qC (.q 0 (.done)) Kr ?_)
 refine qS rfl rfl rfl rfl (qR (qQ (qL (qL (cS (A:=rk pa pc b x) Tk ?_)))))
 refine rk_open fun ta tc oa oc ba bc=>?_
 refine qC (.q 0 (.q 1 (.q 2 (.q 3 (.q 4 (.q 5 (.q 6 (.q 7 (.q 8 ((.l 9 [] (.q 10 (.q 11 (.done)))))))))))))) Kr ?_
 refine qK rfl rfl rfl rfl (cG rfl rfl rfl rfl υ'107 ?_)
 refine kB 7 rfl (v':=.bool false) rfl ?_
 refine qK rfl rfl rfl rfl (qK rfl rfl rfl rfl (qK rfl rfl rfl rfl (qX rfl rfl rfl rfl (qG (k:=5) rfl rfl rfl rfl υ'157 rfl ζ'155 rfl ?_))))
 refine qP (j:=5) rfl rfl rfl rfl α'155 Tk Az (by rfl) ?_
 refine cJ rfl rfl rfl rfl υ'155 ?_
 have sp_1:=below_spec t ((x.T.length:Nat):Int)
 refine qM rfl rfl rfl rfl rfl rfl κ'103 (sp_1) Ts ?_
 rintro ⟨⟩ -
 try simp only [Ca,Na]
 refine qV (sY rfl rfl rfl rfl ?_)
 refine kN rfl rfl rfl rfl rfl (qR (qW [0,1,17] (e':=[(0,_),(1,_),(17,_)]) rfl ?_))
 refine qQ ?_
 refine c_cond_np rfl (fun hin=>?_) (fun hin=>?_)
 ·
  refine qL (qC (.q 0 (.done)) Kr ?_)
  refine qS rfl rfl rfl rfl (qR (qQ (qJ (qN (rk_fold (b:=b) x (pa:=pa) (pc:=pc) (ta:=ta) (tc:=tc) (oa:=oa) (oc:=oc) (ba:=ba) (bc:=bc) Ts (by rfl) (by rfl) (by rfl) (by rfl) ?_)))))
  refine kD rfl rfl (()) (by congr 1;symm;rw [decide_eq_false_iff_not];exact full_out hin) (by trivial) ?_
  exact Tf
 have hst:=stF_at (x:=x) hin.1 hin.2
 refine qF (qQ (qL (qC (.q 0 (.q 1 (.q 2 (.q 3 (.q 4 (.q 5 (.q 6 ((.l 7 [] ((.l 8 [] (.done)))))))))))) Kr ?_)))
 refine qK rfl rfl rfl rfl (qX rfl rfl rfl rfl (qG (k:=5) rfl rfl rfl rfl υ'157 rfl ζ'155 rfl ?_))
 refine qP (j:=5) rfl rfl rfl rfl α'155 Tk Az (by rfl) ?_
 refine qK rfl rfl rfl rfl (kF (sz:=2) (k:=t.toNat) (enc:=enc3) (xs:=x.T) rfl rfl rfl rfl rfl υ'155 ζ'166 hst (by first | rfl | omega) Om Tk ?_)
 intro ib23 io23 ha23 hl23 hc23
 refine q_loadN_O (j:=0) (k':=t.toNat) (us:=[_,_,_]) (enc:=enc3) (off:=io23) rfl rfl rfl rfl α'166 ζ'166 ha23 enc3_len hst Tk (by first | rfl | exact (Ad _).symm | omega) (by rfl) rfl ?_
 refine sD rfl rfl rfl ω'166 (zs:=[.int .i64 0,.int .i64 0,.int .i64 0]) rfl ?_
 intro b5
 refine qV (kH (j:=0) rfl rfl rfl rfl ζ'166 (us:=[_,_,_]) rfl rfl rfl Tk Az (by first | decide | (simp;done) | omega) ?_)
 simp only [setL,List.set]
 refine qV (qR (qW [0,5] (e':=[(0,_),(5,_)]) rfl ?_))
 refine qQ (qL (kL rfl (.q 0 (.q 1 (.q 2 (.q 3 (.q 4 (.q 5 (.q 6 (.q 7 (.q 8 (.q 9 (.q 10 (.q 11 (.q 12 (.q 13 (.q 14 (.q 15 (.q 16 (.q 17 (.done))))))))))))))))))) Kr ?_))
 refine qG (k:=0) rfl rfl rfl rfl υ'166 rfl ζ'164 rfl ?_
 refine qP (j:=0) rfl rfl rfl rfl α'164 Tk Az (by rfl) ?_
 refine qB rfl rfl rfl rfl rfl (cP _ _ _ _) ?_
 refine qK rfl rfl rfl rfl ?_
 refine cF 28 rfl (fun h2=>?_) (fun h2=>?_)
 ·
  have hsi:=(stF_inv hx t).2.2.1 h2
  have hop:=opF_at hsi.1 hsi.2.1
  refine qG (k:=2) rfl rfl rfl rfl υ'166 rfl ζ'3 rfl ?_
  refine qP (j:=2) rfl rfl rfl rfl α'3 Tk Az (by rfl) ?_
  refine qK rfl rfl rfl rfl (qX rfl rfl rfl rfl (qG (k:=7) rfl rfl rfl rfl υ'157 rfl ζ'132 rfl ?_))
  refine qP (j:=7) rfl rfl rfl rfl α'132 Tk Az (by rfl) ?_
  refine qG (k:=1) rfl rfl rfl rfl υ'166 rfl ζ'3 rfl ?_
  refine qP (j:=1) rfl rfl rfl rfl α'3 Tk Az (by rfl) ?_
  refine kF (sz:=1) (k:=(stF x t).2.1.toNat) (enc:=enc2) (xs:=x.B) rfl rfl rfl rfl rfl υ'132 ζ'141 hop (by first | rfl | omega) Om Tk ?_
  intro ib37 io37 ha37 hl37 hc37
  refine qG (k:=0) rfl rfl rfl rfl υ'141 rfl ζ'3 rfl ?_
  refine kS (v:=(.int .i64 ((opF x (stF x t).2.1).1))) (j:=0) (k':=(stF x t).2.1.toNat) (enc:=enc2) (off:=io37) rfl rfl rfl rfl α'3 ha37 enc2_len hop Tk (by first | rfl | exact (Ad _).symm | omega) (by rfl) ?_
  refine qB rfl rfl rfl rfl rfl (cB _ _ _ _) ?_
  refine kW rfl rfl rfl rfl rfl (qS rfl rfl rfl rfl (qR (qW [4] (e':=[(4,_)]) rfl ?_)))
  refine qQ (qJ (rk_fold (b:=b) x (pa:=pa) (pc:=pc) (ta:=ta) (tc:=tc) (oa:=oa) (oc:=oc) (ba:=ba) (bc:=bc) Ts (by rfl) (by rfl) (by rfl) (by rfl) ?_))
  refine kD rfl rfl (()) (by congr 1;first | (rw [decide_eq_decide];simp [fullF,h2];done) | (symm;rw [decide_eq_false_iff_not];simp [fullF,h2])) (by trivial) ?_
  exact Tf
 refine qZ rfl rfl rfl rfl (qZ rfl rfl rfl rfl (qZ rfl rfl rfl rfl (qZ rfl rfl rfl rfl (qZ rfl rfl rfl rfl (qZ rfl rfl rfl rfl (qZ rfl rfl rfl rfl (qZ rfl rfl rfl rfl (qZ rfl rfl rfl rfl ?_))))))))
 refine qZ rfl rfl rfl rfl (qZ rfl rfl rfl rfl (qZ rfl rfl rfl rfl (kN rfl rfl rfl rfl rfl (qS rfl rfl rfl rfl (qR (qW [4] (e':=[(4,_)]) rfl ?_))))))
 refine qQ (qJ (rk_fold (b:=b) x (pa:=pa) (pc:=pc) (ta:=ta) (tc:=tc) (oa:=oa) (oc:=oc) (ba:=ba) (bc:=bc) Ts (by rfl) (by rfl) (by rfl) (by rfl) ?_))
 refine kD rfl rfl (()) (by congr 1;first | (rw [decide_eq_decide];simp [fullF,h2];done) | (symm;rw [decide_eq_false_iff_not];simp [fullF,h2])) (by trivial) ?_
 exact Tf
theorem rcan_spec (pa:Option Addr) (pc b:Nat) (x:CS) (hx:CInv x) (k t o:Int):Spec Tryz.prog 75 [.pointer (some ⟨b,0,none⟩),.agg #[.int .i64 k,.int .i64 t,.int .i64 o]] [rk pa pc b x] (fun (_:Unit)=>.bool (decide (canF x k t o))) (fun _=>True) (fun _=>[rk pa pc b x]):=by
 refine kQ (n:=176) Tryz.func75 rfl rfl rfl ?_
 intro Γ w0
 simp only [argE,Ca,Na,Zd,Nat.reduceAdd]
 have htl:=hx.tl
 have hol:=hx.ol
 have hbl:=hx.bl
 refine qL (qC ((.l 0 [] (.q 1 (.done)))) Kr ?_)
 refine sP rfl rfl rfl rfl (us:=[_,_,_]) rfl ?_
 intro b3
 refine qV (qS rfl rfl rfl rfl (qR (qQ (qL (qL (cS (A:=rk pa pc b x) Tk ?_))))))
 refine rk_open fun ta tc oa oc ba bc=>?_
 refine kL rfl (.q 0 (.q 1 (.q 2 (.q 3 (.q 4 (.q 5 (.q 6 (.q 7 (.q 8 (.q 9 ((.l 10 [] (.q 11 (.q 12 (.done))))))))))))))) Kr ?_
 refine qK rfl rfl rfl rfl (cG rfl rfl rfl rfl υ'107 ?_)
 refine kB 7 rfl (v':=.bool false) rfl ?_
 refine qK rfl rfl rfl rfl (qG (k:=1) rfl rfl rfl rfl υ'47 rfl ζ'3 rfl ?_)
 refine qP (j:=1) rfl rfl rfl rfl α'3 Tk Az (by rfl) ?_
 refine qK rfl rfl rfl rfl (qX rfl rfl rfl rfl (qG (k:=5) rfl rfl rfl rfl υ'157 rfl ζ'155 rfl ?_))
 refine qP (j:=5) rfl rfl rfl rfl α'155 Tk Az (by rfl) ?_
 refine cJ rfl rfl rfl rfl υ'155 ?_
 have sp_1:=below_spec t ((x.T.length:Nat):Int)
 refine qM rfl rfl rfl rfl rfl rfl κ'103 (sp_1) Ts ?_
 rintro ⟨⟩ -
 try simp only [Ca,Na]
 refine qV (sY rfl rfl rfl rfl ?_)
 refine kN rfl rfl rfl rfl rfl (qR (qW [0,3,18] (e':=[(0,_),(3,_),(18,_)]) rfl ?_))
 refine qQ ?_
 refine c_cond_np rfl (fun hin=>?_) (fun hin=>?_)
 ·
  refine qL (qC (.q 0 (.done)) Kr ?_)
  refine qS rfl rfl rfl rfl (qR (qQ (qJ (qN (rk_fold (b:=b) x (pa:=pa) (pc:=pc) (ta:=ta) (tc:=tc) (oa:=oa) (oc:=oc) (ba:=ba) (bc:=bc) Ts (by rfl) (by rfl) (by rfl) (by rfl) ?_)))))
  refine kD rfl rfl (()) (by congr 1;symm;rw [decide_eq_false_iff_not];exact can_out hin) (by trivial) ?_
  exact Tf
 have hst:=stF_at (x:=x) hin.1 hin.2
 refine qF (qQ (qL (kL rfl (.q 0 (.q 1 (.q 2 (.q 3 (.q 4 (.q 5 (.q 6 (.q 7 ((.l 8 [3,5,7] ((.l 9 [] (.done))))))))))))) Kr ?_)))
 refine qK rfl rfl rfl rfl (qX rfl rfl rfl rfl (qG (k:=5) rfl rfl rfl rfl υ'157 rfl ζ'155 rfl ?_))
 refine qP (j:=5) rfl rfl rfl rfl α'155 Tk Az (by rfl) ?_
 refine qG (k:=1) rfl rfl rfl rfl υ'47 rfl ζ'3 rfl ?_
 refine qP (j:=1) rfl rfl rfl rfl α'3 Tk Az (by rfl) ?_
 refine kF (sz:=2) (k:=t.toNat) (enc:=enc3) (xs:=x.T) rfl rfl rfl rfl rfl υ'155 ζ'166 hst (by first | rfl | omega) Om Tk ?_
 intro ib25 io25 ha25 hl25 hc25
 refine q_loadN_O (j:=0) (k':=t.toNat) (us:=[_,_,_]) (enc:=enc3) (off:=io25) rfl rfl rfl rfl α'166 ζ'166 ha25 enc3_len hst Tk (by first | rfl | exact (Ad _).symm | omega) (by rfl) rfl ?_
 refine sD rfl rfl rfl ω'166 (zs:=[.int .i64 0,.int .i64 0,.int .i64 0]) rfl ?_
 intro b5
 refine qH (q:=5) rfl rfl rfl α'155 Tk Az (by rfl) ?_
 refine qH (q:=1) rfl rfl rfl α'3 Tk Az (by rfl) ?_
 refine ag_loadN_O (j:=0) (k':=t.toNat) (us:=[_,_,_]) (enc:=enc3) (off:=io25) rfl rfl rfl α'166 ζ'166 ha25 enc3_len hst Tk (by first | rfl | exact (Ad _).symm | omega) (by rfl) rfl ?_
 refine qV (kH (j:=0) rfl rfl rfl rfl ζ'166 (us:=[_,_,_]) rfl rfl rfl Tk Az (by first | decide | (simp;done) | omega) ?_)
 simp only [setL,List.set]
 refine qV (qR (qW [0,3,5] (e':=[(0,_),(3,_),(5,_)]) rfl ?_))
 refine qQ (qL (qL (qC (.q 0 (.q 1 (.q 2 (.done)))) Kr ?_)))
 refine qG (k:=0) rfl rfl rfl rfl υ'166 rfl ζ'164 rfl ?_
 refine qP (j:=0) rfl rfl rfl rfl α'164 Tk Az (by rfl) ?_
 refine qB rfl rfl rfl rfl rfl (cP _ _ _ _) ?_
 refine qR (qQ ?_)
 refine qD rfl (fun h2=>?_) (fun h2=>?_)
 ·
  refine qL (qC (.q 0 (.q 1 (.q 2 (.q 3 (.q 4 (.q 5 (.q 6 (.q 7 (.q 8 (.q 9 (.q 10 (.q 11 (.q 12 (.q 13 ((.l 14 [] (.q 15 (.q 16 (.done))))))))))))))))))) Kr ?_)
  refine qG (k:=0) rfl rfl rfl rfl υ'47 rfl ζ'45 rfl ?_
  refine qP (j:=0) rfl rfl rfl rfl α'45 Tk Az (by rfl) ?_
  refine qB rfl rfl rfl rfl rfl (cP _ _ _ _) ?_
  refine qK rfl rfl rfl rfl ?_
  refine cF 33 rfl (fun h10=>?_) (fun h10=>?_)
  ·
   refine qG (k:=2) rfl rfl rfl rfl υ'47 rfl ζ'3 rfl ?_
   refine qP (j:=2) rfl rfl rfl rfl α'3 Tk Az (by rfl) ?_
   refine qG (k:=1) rfl rfl rfl rfl υ'166 rfl ζ'3 rfl ?_
   refine qP (j:=1) rfl rfl rfl rfl α'3 Tk Az (by rfl) ?_
   refine qB rfl rfl rfl rfl rfl (cP _ _ _ _) ?_
   refine kW rfl rfl rfl rfl rfl (qK rfl rfl rfl rfl ?_)
   refine cF 40 rfl (fun hob=>?_) (fun hob=>?_)
   ·
    refine qK rfl rfl rfl rfl (qG (k:=1) rfl rfl rfl rfl υ'47 rfl ζ'3 rfl ?_)
    refine qP (j:=1) rfl rfl rfl rfl α'3 Tk Az (by rfl) ?_
    refine rk_fold (b:=b) x (pa:=pa) (pc:=pc) (ta:=ta) (tc:=tc) (oa:=oa) (oc:=oc) (ba:=ba) (bc:=bc) Ts (by rfl) (by rfl) (by rfl) (by rfl) ?_
    have sp_2:=rfull_spec pa pc b x hx t
    refine qM rfl rfl rfl rfl rfl rfl Tryz.call104 (sp_2) Ts ?_
    rintro ⟨⟩ -
    try simp only [Ca,Na]
    refine qV (cS (A:=rk pa pc b x) Tk ?_)
    refine rk_open fun ta tc oa oc ba bc=>?_
    refine kW rfl rfl rfl rfl rfl (qS rfl rfl rfl rfl (qR (qW [4] (e':=[(4,_)]) rfl ?_)))
    refine qQ (qJ (qN (rk_fold (b:=b) x (pa:=pa) (pc:=pc) (ta:=ta) (tc:=tc) (oa:=oa) (oc:=oc) (ba:=ba) (bc:=bc) Ts (by rfl) (by rfl) (by rfl) (by rfl) ?_)))
    refine kD rfl rfl (()) (by congr 1;first | (rw [decide_eq_decide,can_wait h2];simp_all;done) | (symm;rw [decide_eq_false_iff_not,can_wait h2];simp_all)) (by trivial) ?_
    exact Tf
   refine qZ rfl rfl rfl rfl (qZ rfl rfl rfl rfl (qZ rfl rfl rfl rfl (rS rfl rfl rfl rfl ?_)))
   refine kN rfl rfl rfl rfl rfl (qS rfl rfl rfl rfl (qR (qW [4] (e':=[(4,_)]) rfl ?_)))
   refine qQ (qJ (qN (rk_fold (b:=b) x (pa:=pa) (pc:=pc) (ta:=ta) (tc:=tc) (oa:=oa) (oc:=oc) (ba:=ba) (bc:=bc) Ts (by rfl) (by rfl) (by rfl) (by rfl) ?_)))
   refine kD rfl rfl (()) (by congr 1;first | (rw [decide_eq_decide,can_wait h2];simp_all;done) | (symm;rw [decide_eq_false_iff_not,can_wait h2];simp_all)) (by trivial) ?_
   exact Tf
  refine qZ rfl rfl rfl rfl (qZ rfl rfl rfl rfl (qZ rfl rfl rfl rfl (qZ rfl rfl rfl rfl (qZ rfl rfl rfl rfl (kN rfl rfl rfl rfl rfl (qK rfl rfl rfl rfl (qZ rfl rfl rfl rfl (qZ rfl rfl rfl rfl ?_))))))))
  refine qZ rfl rfl rfl rfl (rS rfl rfl rfl rfl ?_)
  refine kN rfl rfl rfl rfl rfl (qS rfl rfl rfl rfl (qR (qW [4] (e':=[(4,_)]) rfl ?_)))
  refine qQ (qJ (qN (rk_fold (b:=b) x (pa:=pa) (pc:=pc) (ta:=ta) (tc:=tc) (oa:=oa) (oc:=oc) (ba:=ba) (bc:=bc) Ts (by rfl) (by rfl) (by rfl) (by rfl) ?_)))
  refine kD rfl rfl (()) (by congr 1;first | (rw [decide_eq_decide,can_wait h2];simp_all;done) | (symm;rw [decide_eq_false_iff_not,can_wait h2];simp_all)) (by trivial) ?_
  exact Tf
 refine qF (qQ (qL (qL (qC (.q 0 (.q 1 (.q 2 (.done)))) Kr ?_))))
 refine qG (k:=0) rfl rfl rfl rfl υ'166 rfl ζ'164 rfl ?_
 refine qP (j:=0) rfl rfl rfl rfl α'164 Tk Az (by rfl) ?_
 refine qB rfl rfl rfl rfl rfl (b_neq _ _ _ _) ?_
 refine qR (qW [0,3,48] (e':=[(0,_),(3,_),(48,_)]) rfl ?_)
 refine qQ ?_
 refine qD rfl (fun h1=>?_) (fun h1=>?_)
 ·
  refine qL (qC (.q 0 (.done)) Kr ?_)
  refine qS rfl rfl rfl rfl (qR (qQ (qJ (qN (rk_fold (b:=b) x (pa:=pa) (pc:=pc) (ta:=ta) (tc:=tc) (oa:=oa) (oc:=oc) (ba:=ba) (bc:=bc) Ts (by rfl) (by rfl) (by rfl) (by rfl) ?_)))))
  refine kD rfl rfl (()) (by congr 1;symm;rw [decide_eq_false_iff_not];exact can_not h2 (.inl h1)) (by trivial) ?_
  exact Tf
 have h1:(stF x t).1=1:=by omega
 refine qF (qQ (qL (qL (qC (.q 0 (.q 1 (.done))) Kr ?_))))
 refine qG (k:=0) rfl rfl rfl rfl υ'47 rfl ζ'45 rfl ?_
 refine qP (j:=0) rfl rfl rfl rfl α'45 Tk Az (by rfl) ?_
 refine qR (qQ (kC (qL (qL (qC (.q 0 (.q 1 (.done))) Kr ?_)))))
 refine qB rfl rfl rfl rfl rfl (cP _ _ _ _) ?_
 refine qS rfl rfl rfl rfl (qR (qQ ?_))
 refine qD rfl (fun k1=>?_) (fun k1=>?_)
 ·
  refine kB 51 rfl (v':=.bool true) (by rw [decide_eq_true k1]) ?_
  refine qF (qQ (cK rfl ?_))
  refine qL (kL rfl (.q 0 (.q 1 (.q 2 (.q 3 (.q 4 (.q 5 (.q 6 ((.l 7 [] (.q 8 (.done))))))))))) Kr ?_)
  refine qG (k:=2) rfl rfl rfl rfl υ'47 rfl ζ'3 rfl ?_
  refine qP (j:=2) rfl rfl rfl rfl α'3 Tk Az (by rfl) ?_
  refine qK rfl rfl rfl rfl (qX rfl rfl rfl rfl (qG (k:=0) rfl rfl rfl rfl υ'157 rfl ζ'24 rfl ?_))
  refine qG (k:=1) rfl rfl rfl rfl υ'24 rfl ζ'3 rfl ?_
  refine qP (j:=1) rfl rfl rfl rfl α'3 Tk Az (by rfl) ?_
  have sp_3:=below_spec o x.va
  refine qM rfl rfl rfl rfl rfl rfl κ'103 (sp_3) Ts ?_
  rintro ⟨⟩ -
  try simp only [Ca,Na]
  refine qV (qS rfl rfl rfl rfl (qR (qW [4] (e':=[(4,_)]) rfl ?_)))
  refine qQ (qJ (kM (qN (rk_fold (b:=b) x (pa:=pa) (pc:=pc) (ta:=ta) (tc:=tc) (oa:=oa) (oc:=oc) (ba:=ba) (bc:=bc) Ts (by rfl) (by rfl) (by rfl) (by rfl) ?_))))
  refine kD rfl rfl (()) (by congr 1;rw [decide_eq_decide,can_run' h1,okK_k.1 (.inl k1)];try rfl) (by trivial) ?_
  exact Tf
 refine kB 51 rfl (v':=.bool false) (by rw [decide_eq_false k1]) ?_
 refine qC (.q 0 (.q 1 (.done))) Kr ?_
 refine qB rfl rfl rfl rfl rfl (cP _ _ _ _) ?_
 refine qS rfl rfl rfl rfl (qR (qW [0,3,50,51] (e':=[(0,_),(3,_),(50,_),(51,_)]) rfl ?_))
 refine qQ ?_
 refine qD rfl (fun k2=>?_) (fun k2=>?_)
 ·
  refine qL (kL rfl (.q 0 (.q 1 (.q 2 (.q 3 (.q 4 (.q 5 (.q 6 ((.l 7 [] (.q 8 (.done))))))))))) Kr ?_)
  refine qG (k:=2) rfl rfl rfl rfl υ'47 rfl ζ'3 rfl ?_
  refine qP (j:=2) rfl rfl rfl rfl α'3 Tk Az (by rfl) ?_
  refine qK rfl rfl rfl rfl (qX rfl rfl rfl rfl (qG (k:=0) rfl rfl rfl rfl υ'157 rfl ζ'24 rfl ?_))
  refine qG (k:=1) rfl rfl rfl rfl υ'24 rfl ζ'3 rfl ?_
  refine qP (j:=1) rfl rfl rfl rfl α'3 Tk Az (by rfl) ?_
  have sp_4:=below_spec o x.va
  refine qM rfl rfl rfl rfl rfl rfl κ'103 (sp_4) Ts ?_
  rintro ⟨⟩ -
  try simp only [Ca,Na]
  refine qV (qS rfl rfl rfl rfl (qR (qW [4] (e':=[(4,_)]) rfl ?_)))
  refine qQ (qJ (kM (qN (rk_fold (b:=b) x (pa:=pa) (pc:=pc) (ta:=ta) (tc:=tc) (oa:=oa) (oc:=oc) (ba:=ba) (bc:=bc) Ts (by rfl) (by rfl) (by rfl) (by rfl) ?_))))
  refine kD rfl rfl (()) (by congr 1;rw [decide_eq_decide,can_run' h1,okK_k.1 (.inr k2)];try rfl) (by trivial) ?_
  exact Tf
 refine qL (qL (qC (.q 0 (.q 1 (.done))) Kr ?_))
 refine qB rfl rfl rfl rfl rfl (cP _ _ _ _) ?_
 refine qS rfl rfl rfl rfl (qR (qQ ?_))
 refine qD rfl (fun k3=>?_) (fun k3=>?_)
 ·
  refine kB 62 rfl (v':=.bool true) (by rw [decide_eq_true k3]) ?_
  refine qF (qQ (cK rfl ?_))
  refine qL (kL rfl (.q 0 (.q 1 (.q 2 (.q 3 (.q 4 (.q 5 (.q 6 ((.l 7 [] (.q 8 (.done))))))))))) Kr ?_)
  refine qG (k:=2) rfl rfl rfl rfl υ'47 rfl ζ'3 rfl ?_
  refine qP (j:=2) rfl rfl rfl rfl α'3 Tk Az (by rfl) ?_
  refine qK rfl rfl rfl rfl (qX rfl rfl rfl rfl (qG (k:=0) rfl rfl rfl rfl υ'157 rfl ζ'24 rfl ?_))
  refine qG (k:=2) rfl rfl rfl rfl υ'24 rfl ζ'3 rfl ?_
  refine qP (j:=2) rfl rfl rfl rfl α'3 Tk Az (by rfl) ?_
  have sp_5:=below_spec o x.vo
  refine qM rfl rfl rfl rfl rfl rfl κ'103 (sp_5) Ts ?_
  rintro ⟨⟩ -
  try simp only [Ca,Na]
  refine qV (qS rfl rfl rfl rfl (qR (qW [4] (e':=[(4,_)]) rfl ?_)))
  refine qQ (qJ (kM (qN (rk_fold (b:=b) x (pa:=pa) (pc:=pc) (ta:=ta) (tc:=tc) (oa:=oa) (oc:=oc) (ba:=ba) (bc:=bc) Ts (by rfl) (by rfl) (by rfl) (by rfl) ?_))))
  refine kD rfl rfl (()) (by congr 1;rw [decide_eq_decide,can_run' h1,okK_k.2.1 (.inl k3)];try rfl) (by trivial) ?_
  exact Tf
 refine kB 62 rfl (v':=.bool false) (by rw [decide_eq_false k3]) ?_
 refine qC (.q 0 (.q 1 (.done))) Kr ?_
 refine qB rfl rfl rfl rfl rfl (cP _ _ _ _) ?_
 refine qS rfl rfl rfl rfl (qR (qQ ?_))
 refine qD rfl (fun k4=>?_) (fun k4=>?_)
 ·
  refine qL (kL rfl (.q 0 (.q 1 (.q 2 (.q 3 (.q 4 (.q 5 (.q 6 ((.l 7 [] (.q 8 (.done))))))))))) Kr ?_)
  refine qG (k:=2) rfl rfl rfl rfl υ'47 rfl ζ'3 rfl ?_
  refine qP (j:=2) rfl rfl rfl rfl α'3 Tk Az (by rfl) ?_
  refine qK rfl rfl rfl rfl (qX rfl rfl rfl rfl (qG (k:=0) rfl rfl rfl rfl υ'157 rfl ζ'24 rfl ?_))
  refine qG (k:=2) rfl rfl rfl rfl υ'24 rfl ζ'3 rfl ?_
  refine qP (j:=2) rfl rfl rfl rfl α'3 Tk Az (by rfl) ?_
  have sp_6:=below_spec o x.vo
  refine qM rfl rfl rfl rfl rfl rfl κ'103 (sp_6) Ts ?_
  rintro ⟨⟩ -
  try simp only [Ca,Na]
  refine qV (qS rfl rfl rfl rfl (qR (qW [4] (e':=[(4,_)]) rfl ?_)))
  refine qQ (qJ (kM (qN (rk_fold (b:=b) x (pa:=pa) (pc:=pc) (ta:=ta) (tc:=tc) (oa:=oa) (oc:=oc) (ba:=ba) (bc:=bc) Ts (by rfl) (by rfl) (by rfl) (by rfl) ?_))))
  refine kD rfl rfl (()) (by congr 1;rw [decide_eq_decide,can_run' h1,okK_k.2.1 (.inr k4)];try rfl) (by trivial) ?_
  exact Tf
 refine qL (qC (.q 0 (.q 1 (.done))) Kr ?_)
 refine qB rfl rfl rfl rfl rfl (cP _ _ _ _) ?_
 refine qS rfl rfl rfl rfl (qR (qW [0,3,50,73] (e':=[(0,_),(3,_),(50,_),(73,_)]) rfl ?_))
 refine qQ ?_
 refine qD rfl (fun k5=>?_) (fun k5=>?_)
 ·
  refine qL (kL rfl (.q 0 (.q 1 (.q 2 (.q 3 (.q 4 (.q 5 (.q 6 ((.l 7 [] (.q 8 (.q 9 (.q 10 (.q 11 (.q 12 (.q 13 (.q 14 (.q 15 (.q 16 (.q 17 (.q 18 (.q 19 (.done)))))))))))))))))))))) Kr ?_)
  refine qG (k:=2) rfl rfl rfl rfl υ'47 rfl ζ'3 rfl ?_
  refine qP (j:=2) rfl rfl rfl rfl α'3 Tk Az (by rfl) ?_
  refine qK rfl rfl rfl rfl (qX rfl rfl rfl rfl (qG (k:=6) rfl rfl rfl rfl υ'157 rfl ζ'22 rfl ?_))
  refine qP (j:=6) rfl rfl rfl rfl α'22 Tk Az (by rfl) ?_
  refine cJ rfl rfl rfl rfl υ'22 ?_
  have sp_7:=below_spec o ((x.O.length:Nat):Int)
  refine qM rfl rfl rfl rfl rfl rfl κ'103 (sp_7) Ts ?_
  rintro ⟨⟩ -
  try simp only [Ca,Na]
  refine qV (qK rfl rfl rfl rfl ?_)
  refine cF 83 rfl (fun hin2=>?_) (fun hin2=>?_)
  ·
   have hel:=owV_at (x:=x) (l:=o) hin2.1 hin2.2
   refine qK rfl rfl rfl rfl (qX rfl rfl rfl rfl (qG (k:=6) rfl rfl rfl rfl υ'157 rfl ζ'22 rfl ?_))
   refine qP (j:=6) rfl rfl rfl rfl α'22 Tk Az (by rfl) ?_
   refine qG (k:=2) rfl rfl rfl rfl υ'47 rfl ζ'3 rfl ?_
   refine qP (j:=2) rfl rfl rfl rfl α'3 Tk Az (by rfl) ?_
   refine kF (sz:=0) (k:=o.toNat) (enc:=encZ) (xs:=x.O) rfl rfl rfl rfl rfl υ'22 ζ'3 hel (by first | rfl | omega) Om Tk ?_
   intro ib90 io90 ha90 hl90 hc90
   refine kS (v:=(.int .i64 (owV x o))) (j:=0) (k':=o.toNat) (enc:=encZ) (off:=io90) rfl rfl rfl rfl α'3 ha90 encZ_len hel Tk (by first | rfl | exact (Ad _).symm | omega) (by rfl) ?_
   refine qB rfl rfl rfl rfl rfl (cP _ _ _ _) ?_
   refine kW rfl rfl rfl rfl rfl (qS rfl rfl rfl rfl (qR (qW [4] (e':=[(4,_)]) rfl ?_)))
   refine qQ (qJ (kM (qN (rk_fold (b:=b) x (pa:=pa) (pc:=pc) (ta:=ta) (tc:=tc) (oa:=oa) (oc:=oc) (ba:=ba) (bc:=bc) Ts (by rfl) (by rfl) (by rfl) (by rfl) ?_))))
   refine kD rfl rfl (()) (by congr 1;rw [decide_eq_decide,can_run' h1,okK_k.2.2.1 (k5)];rw [owF_n];exact ⟨fun h=>⟨hin2.1,by omega,h⟩,fun h=>h.2.2⟩) (by trivial) ?_
   exact Tf
  refine qZ rfl rfl rfl rfl (qZ rfl rfl rfl rfl (qZ rfl rfl rfl rfl (qZ rfl rfl rfl rfl (qZ rfl rfl rfl rfl (qZ rfl rfl rfl rfl (qZ rfl rfl rfl rfl (qZ rfl rfl rfl rfl (qZ rfl rfl rfl rfl ?_))))))))
  refine kN rfl rfl rfl rfl rfl (qS rfl rfl rfl rfl (qR (qW [4] (e':=[(4,_)]) rfl ?_)))
  refine qQ (qJ (kM (qN (rk_fold (b:=b) x (pa:=pa) (pc:=pc) (ta:=ta) (tc:=tc) (oa:=oa) (oc:=oc) (ba:=ba) (bc:=bc) Ts (by rfl) (by rfl) (by rfl) (by rfl) ?_))))
  refine kD rfl rfl (()) (by congr 1;symm;rw [decide_eq_false_iff_not,can_run' h1,okK_k.2.2.1 (k5)];rintro ⟨q1,q2,-⟩;omega) (by trivial) ?_
  exact Tf
 refine qL (qC (.q 0 (.q 1 (.done))) Kr ?_)
 refine qB rfl rfl rfl rfl rfl (cP _ _ _ _) ?_
 refine qS rfl rfl rfl rfl (qR (qQ ?_))
 refine qD rfl (fun k6=>?_) (fun k6=>?_)
 ·
  refine qL (kL rfl (.q 0 (.q 1 (.q 2 (.q 3 (.q 4 (.q 5 (.q 6 ((.l 7 [] (.q 8 (.q 9 (.q 10 (.q 11 (.q 12 (.q 13 (.q 14 (.q 15 (.q 16 (.q 17 (.q 18 (.q 19 (.q 20 (.q 21 (.done)))))))))))))))))))))))) Kr ?_)
  refine qG (k:=2) rfl rfl rfl rfl υ'47 rfl ζ'3 rfl ?_
  refine qP (j:=2) rfl rfl rfl rfl α'3 Tk Az (by rfl) ?_
  refine qK rfl rfl rfl rfl (qX rfl rfl rfl rfl (qG (k:=6) rfl rfl rfl rfl υ'157 rfl ζ'22 rfl ?_))
  refine qP (j:=6) rfl rfl rfl rfl α'22 Tk Az (by rfl) ?_
  refine cJ rfl rfl rfl rfl υ'22 ?_
  have sp_8:=below_spec o ((x.O.length:Nat):Int)
  refine qM rfl rfl rfl rfl rfl rfl κ'103 (sp_8) Ts ?_
  rintro ⟨⟩ -
  try simp only [Ca,Na]
  refine qV (qK rfl rfl rfl rfl ?_)
  refine cF 104 rfl (fun hin2=>?_) (fun hin2=>?_)
  ·
   have hel:=owV_at (x:=x) (l:=o) hin2.1 hin2.2
   refine qK rfl rfl rfl rfl (qX rfl rfl rfl rfl (qG (k:=6) rfl rfl rfl rfl υ'157 rfl ζ'22 rfl ?_))
   refine qP (j:=6) rfl rfl rfl rfl α'22 Tk Az (by rfl) ?_
   refine qG (k:=2) rfl rfl rfl rfl υ'47 rfl ζ'3 rfl ?_
   refine qP (j:=2) rfl rfl rfl rfl α'3 Tk Az (by rfl) ?_
   refine kF (sz:=0) (k:=o.toNat) (enc:=encZ) (xs:=x.O) rfl rfl rfl rfl rfl υ'22 ζ'3 hel (by first | rfl | omega) Om Tk ?_
   intro ib111 io111 ha111 hl111 hc111
   refine kS (v:=(.int .i64 (owV x o))) (j:=0) (k':=o.toNat) (enc:=encZ) (off:=io111) rfl rfl rfl rfl α'3 ha111 encZ_len hel Tk (by first | rfl | exact (Ad _).symm | omega) (by rfl) ?_
   refine qG (k:=1) rfl rfl rfl rfl υ'47 rfl ζ'3 rfl ?_
   refine qP (j:=1) rfl rfl rfl rfl α'3 Tk Az (by rfl) ?_
   refine qB rfl rfl rfl rfl rfl (cP _ _ _ _) ?_
   refine kW rfl rfl rfl rfl rfl (qS rfl rfl rfl rfl (qR (qW [4] (e':=[(4,_)]) rfl ?_)))
   refine qQ (qJ (kM (qN (rk_fold (b:=b) x (pa:=pa) (pc:=pc) (ta:=ta) (tc:=tc) (oa:=oa) (oc:=oc) (ba:=ba) (bc:=bc) Ts (by rfl) (by rfl) (by rfl) (by rfl) ?_))))
   refine kD rfl rfl (()) (by congr 1;rw [decide_eq_decide,can_run' h1,okK_k.2.2.2.1 (k6)];rw [owF_s Om];exact ⟨fun h=>⟨hin2.1,by omega,h⟩,fun h=>h.2.2⟩) (by trivial) ?_
   exact Tf
  refine qZ rfl rfl rfl rfl (qZ rfl rfl rfl rfl (qZ rfl rfl rfl rfl (qZ rfl rfl rfl rfl (qZ rfl rfl rfl rfl (qZ rfl rfl rfl rfl (qZ rfl rfl rfl rfl (qZ rfl rfl rfl rfl (qZ rfl rfl rfl rfl ?_))))))))
  refine qZ rfl rfl rfl rfl (qZ rfl rfl rfl rfl (kN rfl rfl rfl rfl rfl (qS rfl rfl rfl rfl (qR (qW [4] (e':=[(4,_)]) rfl ?_)))))
  refine qQ (qJ (kM (qN (rk_fold (b:=b) x (pa:=pa) (pc:=pc) (ta:=ta) (tc:=tc) (oa:=oa) (oc:=oc) (ba:=ba) (bc:=bc) Ts (by rfl) (by rfl) (by rfl) (by rfl) ?_))))
  refine kD rfl rfl (()) (by congr 1;symm;rw [decide_eq_false_iff_not,can_run' h1,okK_k.2.2.2.1 (k6)];rintro ⟨q1,q2,-⟩;omega) (by trivial) ?_
  exact Tf
 refine qL (qC (.q 0 (.q 1 (.done))) Kr ?_)
 refine qB rfl rfl rfl rfl rfl (cP _ _ _ _) ?_
 refine qS rfl rfl rfl rfl (qR (qW [0,3,50,117] (e':=[(0,_),(3,_),(50,_),(117,_)]) rfl ?_))
 refine qQ ?_
 refine qD rfl (fun k7=>?_) (fun k7=>?_)
 ·
  refine qL (kL rfl (.q 0 (.q 1 (.q 2 (.q 3 (.q 4 (.q 5 (.q 6 ((.l 7 [] (.q 8 (.q 9 (.q 10 (.q 11 (.q 12 (.q 13 (.q 14 (.q 15 (.q 16 (.q 17 (.q 18 (.q 19 (.q 20 (.done))))))))))))))))))))))) Kr ?_)
  refine qG (k:=2) rfl rfl rfl rfl υ'47 rfl ζ'3 rfl ?_
  refine qP (j:=2) rfl rfl rfl rfl α'3 Tk Az (by rfl) ?_
  refine qK rfl rfl rfl rfl (qX rfl rfl rfl rfl (qG (k:=5) rfl rfl rfl rfl υ'157 rfl ζ'155 rfl ?_))
  refine qP (j:=5) rfl rfl rfl rfl α'155 Tk Az (by rfl) ?_
  refine cJ rfl rfl rfl rfl υ'155 ?_
  have sp_9:=below_spec o ((x.T.length:Nat):Int)
  refine qM rfl rfl rfl rfl rfl rfl κ'103 (sp_9) Ts ?_
  rintro ⟨⟩ -
  try simp only [Ca,Na]
  refine qV (qK rfl rfl rfl rfl ?_)
  refine cF 127 rfl (fun hin2=>?_) (fun hin2=>?_)
  ·
   have hel:=stF_at (x:=x) (t:=o) hin2.1 hin2.2
   refine qK rfl rfl rfl rfl (qX rfl rfl rfl rfl (qG (k:=5) rfl rfl rfl rfl υ'157 rfl ζ'155 rfl ?_))
   refine qP (j:=5) rfl rfl rfl rfl α'155 Tk Az (by rfl) ?_
   refine qG (k:=2) rfl rfl rfl rfl υ'47 rfl ζ'3 rfl ?_
   refine qP (j:=2) rfl rfl rfl rfl α'3 Tk Az (by rfl) ?_
   refine kF (sz:=2) (k:=o.toNat) (enc:=enc3) (xs:=x.T) rfl rfl rfl rfl rfl υ'155 ζ'166 hel (by first | rfl | omega) Om Tk ?_
   intro ib134 io134 ha134 hl134 hc134
   refine qG (k:=0) rfl rfl rfl rfl υ'166 rfl ζ'164 rfl ?_
   refine kS (v:=(.int .i64 ((stF x o).1))) (j:=0) (k':=o.toNat) (enc:=enc3) (off:=io134) rfl rfl rfl rfl α'164 ha134 enc3_len hel Tk (by first | rfl | exact (Ad _).symm | omega) (by rfl) ?_
   refine qB rfl rfl rfl rfl rfl (cP _ _ _ _) ?_
   refine kW rfl rfl rfl rfl rfl (qS rfl rfl rfl rfl (qR (qW [4] (e':=[(4,_)]) rfl ?_)))
   refine qQ (qJ (kM (qN (rk_fold (b:=b) x (pa:=pa) (pc:=pc) (ta:=ta) (tc:=tc) (oa:=oa) (oc:=oc) (ba:=ba) (bc:=bc) Ts (by rfl) (by rfl) (by rfl) (by rfl) ?_))))
   refine kD rfl rfl (()) (by congr 1;rw [decide_eq_decide,can_run' h1,okK_k.2.2.2.2.1 (k7)];omega) (by trivial) ?_
   exact Tf
  refine qZ rfl rfl rfl rfl (qZ rfl rfl rfl rfl (qZ rfl rfl rfl rfl (qZ rfl rfl rfl rfl (qZ rfl rfl rfl rfl (qZ rfl rfl rfl rfl (qZ rfl rfl rfl rfl (qZ rfl rfl rfl rfl (qZ rfl rfl rfl rfl ?_))))))))
  refine qZ rfl rfl rfl rfl (kN rfl rfl rfl rfl rfl (qS rfl rfl rfl rfl (qR (qW [4] (e':=[(4,_)]) rfl ?_))))
  refine qQ (qJ (kM (qN (rk_fold (b:=b) x (pa:=pa) (pc:=pc) (ta:=ta) (tc:=tc) (oa:=oa) (oc:=oc) (ba:=ba) (bc:=bc) Ts (by rfl) (by rfl) (by rfl) (by rfl) ?_))))
  refine kD rfl rfl (()) (by congr 1;symm;rw [decide_eq_false_iff_not,can_run' h1,okK_k.2.2.2.2.1 (k7)];rintro ⟨q1,q2,-⟩;omega) (by trivial) ?_
  exact Tf
 refine qL (qC (.q 0 (.q 1 (.done))) Kr ?_)
 refine qB rfl rfl rfl rfl rfl (cP _ _ _ _) ?_
 refine qS rfl rfl rfl rfl (qR (qQ ?_))
 refine qD rfl (fun k8=>?_) (fun k8=>?_)
 ·
  refine qL (kL rfl (.q 0 (.q 1 (.q 2 (.q 3 (.q 4 (.q 5 (.q 6 ((.l 7 [] (.q 8 (.q 9 (.q 10 (.q 11 (.q 12 (.q 13 (.q 14 (.q 15 (.q 16 (.q 17 (.q 18 (.q 19 (.q 20 (.done))))))))))))))))))))))) Kr ?_)
  refine qG (k:=2) rfl rfl rfl rfl υ'47 rfl ζ'3 rfl ?_
  refine qP (j:=2) rfl rfl rfl rfl α'3 Tk Az (by rfl) ?_
  refine qK rfl rfl rfl rfl (qX rfl rfl rfl rfl (qG (k:=5) rfl rfl rfl rfl υ'157 rfl ζ'155 rfl ?_))
  refine qP (j:=5) rfl rfl rfl rfl α'155 Tk Az (by rfl) ?_
  refine cJ rfl rfl rfl rfl υ'155 ?_
  have sp_10:=below_spec o ((x.T.length:Nat):Int)
  refine qM rfl rfl rfl rfl rfl rfl κ'103 (sp_10) Ts ?_
  rintro ⟨⟩ -
  try simp only [Ca,Na]
  refine qV (qK rfl rfl rfl rfl ?_)
  refine cF 149 rfl (fun hin2=>?_) (fun hin2=>?_)
  ·
   have hel:=stF_at (x:=x) (t:=o) hin2.1 hin2.2
   refine qK rfl rfl rfl rfl (qX rfl rfl rfl rfl (qG (k:=5) rfl rfl rfl rfl υ'157 rfl ζ'155 rfl ?_))
   refine qP (j:=5) rfl rfl rfl rfl α'155 Tk Az (by rfl) ?_
   refine qG (k:=2) rfl rfl rfl rfl υ'47 rfl ζ'3 rfl ?_
   refine qP (j:=2) rfl rfl rfl rfl α'3 Tk Az (by rfl) ?_
   refine kF (sz:=2) (k:=o.toNat) (enc:=enc3) (xs:=x.T) rfl rfl rfl rfl rfl υ'155 ζ'166 hel (by first | rfl | omega) Om Tk ?_
   intro ib156 io156 ha156 hl156 hc156
   refine qG (k:=0) rfl rfl rfl rfl υ'166 rfl ζ'164 rfl ?_
   refine kS (v:=(.int .i64 ((stF x o).1))) (j:=0) (k':=o.toNat) (enc:=enc3) (off:=io156) rfl rfl rfl rfl α'164 ha156 enc3_len hel Tk (by first | rfl | exact (Ad _).symm | omega) (by rfl) ?_
   refine qB rfl rfl rfl rfl rfl (cP _ _ _ _) ?_
   refine kW rfl rfl rfl rfl rfl (qS rfl rfl rfl rfl (qR (qW [4] (e':=[(4,_)]) rfl ?_)))
   refine qQ (qJ (kM (qN (rk_fold (b:=b) x (pa:=pa) (pc:=pc) (ta:=ta) (tc:=tc) (oa:=oa) (oc:=oc) (ba:=ba) (bc:=bc) Ts (by rfl) (by rfl) (by rfl) (by rfl) ?_))))
   refine kD rfl rfl (()) (by congr 1;rw [decide_eq_decide,can_run' h1,okK_k.2.2.2.2.2.1 (k8)];omega) (by trivial) ?_
   exact Tf
  refine qZ rfl rfl rfl rfl (qZ rfl rfl rfl rfl (qZ rfl rfl rfl rfl (qZ rfl rfl rfl rfl (qZ rfl rfl rfl rfl (qZ rfl rfl rfl rfl (qZ rfl rfl rfl rfl (qZ rfl rfl rfl rfl (qZ rfl rfl rfl rfl ?_))))))))
  refine qZ rfl rfl rfl rfl (kN rfl rfl rfl rfl rfl (qS rfl rfl rfl rfl (qR (qW [4] (e':=[(4,_)]) rfl ?_))))
  refine qQ (qJ (kM (qN (rk_fold (b:=b) x (pa:=pa) (pc:=pc) (ta:=ta) (tc:=tc) (oa:=oa) (oc:=oc) (ba:=ba) (bc:=bc) Ts (by rfl) (by rfl) (by rfl) (by rfl) ?_))))
  refine kD rfl rfl (()) (by congr 1;symm;rw [decide_eq_false_iff_not,can_run' h1,okK_k.2.2.2.2.2.1 (k8)];rintro ⟨q1,q2,-⟩;omega) (by trivial) ?_
  exact Tf
 refine qL (qC (.q 0 (.q 1 (.done))) Kr ?_)
 refine qB rfl rfl rfl rfl rfl (cP _ _ _ _) ?_
 refine qS rfl rfl rfl rfl (qR (qW [0,3,50,161] (e':=[(0,_),(3,_),(50,_),(161,_)]) rfl ?_))
 refine qQ ?_
 refine qD rfl (fun k9=>?_) (fun k9=>?_)
 ·
  refine qL (kL rfl (.q 0 (.q 1 (.q 2 (.q 3 (.q 4 (.q 5 (.q 6 ((.l 7 [] (.q 8 (.done))))))))))) Kr ?_)
  refine qG (k:=2) rfl rfl rfl rfl υ'47 rfl ζ'3 rfl ?_
  refine qP (j:=2) rfl rfl rfl rfl α'3 Tk Az (by rfl) ?_
  refine qK rfl rfl rfl rfl (qX rfl rfl rfl rfl (qG (k:=7) rfl rfl rfl rfl υ'157 rfl ζ'132 rfl ?_))
  refine qP (j:=7) rfl rfl rfl rfl α'132 Tk Az (by rfl) ?_
  refine cJ rfl rfl rfl rfl υ'132 ?_
  have sp_11:=below_spec o ((x.B.length:Nat):Int)
  refine qM rfl rfl rfl rfl rfl rfl κ'103 (sp_11) Ts ?_
  rintro ⟨⟩ -
  try simp only [Ca,Na]
  refine qV (qS rfl rfl rfl rfl (qR (qW [4] (e':=[(4,_)]) rfl ?_)))
  refine qQ (qJ (kM (qN (rk_fold (b:=b) x (pa:=pa) (pc:=pc) (ta:=ta) (tc:=tc) (oa:=oa) (oc:=oc) (ba:=ba) (bc:=bc) Ts (by rfl) (by rfl) (by rfl) (by rfl) ?_))))
  refine kD rfl rfl (()) (by congr 1;rw [decide_eq_decide,can_run' h1,okK_k.2.2.2.2.2.2.1 (k9)];try rfl) (by trivial) ?_
  exact Tf
 refine qL (qC (.q 0 (.q 1 (.done))) Kr ?_)
 refine qB rfl rfl rfl rfl rfl (cP _ _ _ _) ?_
 refine qS rfl rfl rfl rfl (qR (qW [3,171] (e':=[(3,_),(171,_)]) rfl ?_))
 refine qQ ?_
 refine qD rfl (fun k11=>?_) (fun k11=>?_)
 ·
  refine qL (qC (.q 0 (.q 1 (.q 2 (.q 3 (.done))))) Kr ?_)
  refine qG (k:=2) rfl rfl rfl rfl υ'47 rfl ζ'3 rfl ?_
  refine qP (j:=2) rfl rfl rfl rfl α'3 Tk Az (by rfl) ?_
  refine qB rfl rfl rfl rfl rfl (cP _ _ _ _) ?_
  refine qS rfl rfl rfl rfl (qR (qW [4] (e':=[(4,_)]) rfl ?_))
  refine qQ (qJ (kM (qN (rk_fold (b:=b) x (pa:=pa) (pc:=pc) (ta:=ta) (tc:=tc) (oa:=oa) (oc:=oc) (ba:=ba) (bc:=bc) Ts (by rfl) (by rfl) (by rfl) (by rfl) ?_))))
  refine kD rfl rfl (()) (by congr 1;rw [decide_eq_decide,can_run' h1,okK_k.2.2.2.2.2.2.2.1 (k11)];omega) (by trivial) ?_
  exact Tf
 refine qF (kX (qQ (qL (qC (.q 0 (.done)) Kr ?_))))
 refine qS rfl rfl rfl rfl (qR (qQ (qJ (rk_fold (b:=b) x (pa:=pa) (pc:=pc) (ta:=ta) (tc:=tc) (oa:=oa) (oc:=oc) (ba:=ba) (bc:=bc) Ts (by rfl) (by rfl) (by rfl) (by rfl) ?_))))
 refine kD rfl rfl (()) (by congr 1;symm;rw [decide_eq_false_iff_not,can_run' h1];exact fun h=>okK_k.2.2.2.2.2.2.2.2 k1 k2 k3 k4 k5 k6 k7 k8 k9 k11 h.2) (by trivial) ?_
 exact Tf
end Go.Ab.Fe
set_option linter.unusedVariables false
set_option linter.unusedSimpArgs false
set_option maxRecDepth 100000
namespace Go.Ab.Fe
open Go Go.Proofs Go.Ab
theorem rnext_spec (pa:Option Addr) (pc b:Nat) (x:CS) (hx:CInv x) (hn:x.n≤1000000000000000) (pl:List Int) (hpl:x.pa=pl) (k t o:Int):Spec Tryz.prog 85 [.pointer (some ⟨b,0,none⟩),.agg #[.int .i64 k,.int .i64 t,.int .i64 o]] [rk pa pc b x,own 1 encZ pa pc pl] (fun (_:Unit)=>.int .i64 (nxE x k t o)) (fun _=>True) (fun _=>[rk pa pc b (nxF x k t o),own 1 encZ pa pc pl]):=by
 refine kQ (n:=123) Tryz.func85 rfl rfl rfl ?_
 intro Γ w0
 simp only [argE,Ca,Na,Zd,Nat.reduceAdd]
 have hn0:=hx.n0
 have htl:=hx.tl
 have hol:=hx.ol
 have hbl:=hx.bl
 refine qL (qC ((.l 0 [] (.q 1 (.done)))) Kr ?_)
 refine sP rfl rfl rfl rfl (us:=[_,_,_]) rfl ?_
 intro b3
 refine qV (qS rfl rfl rfl rfl (qR (qQ (qL (qL (qC (.q 0 (.q 1 (.done))) Kr ?_))))))
 refine qK rfl rfl rfl rfl (cG rfl rfl rfl rfl υ'107 ?_)
 refine kB 8 rfl (v':=.bool false) rfl ?_
 refine qR (qQ (kZ rfl ?_))
 refine qF (qQ (qL (qC (.q 0 (.q 1 ((.l 2 [] (.q 3 (.done)))))) Kr ?_)))
 refine qK rfl rfl rfl rfl (kG rfl rfl rfl rfl α'47 ζ'47 Tk 0 (us:=[_,_,_]) Az rfl rfl ?_)
 have sp_1:=rcan_spec pa pc b x hx k t o
 refine qM rfl rfl rfl rfl rfl rfl Tryz.call75 (sp_1) Ts ?_
 rintro ⟨⟩ -
 try simp only [Ca,Na]
 refine qV (qS rfl rfl rfl rfl (qR (qW [0,3,5] (e':=[(0,_),(3,_),(5,_)]) rfl ?_)))
 refine qQ (qL (qL (qC (.q 0 (.q 1 (.done))) Kr ?_)))
 refine qK rfl rfl rfl rfl (sY rfl rfl rfl rfl ?_)
 refine qR (qQ ?_)
 refine c_cond_np rfl (fun hc=>?_) (fun hc=>?_)
 ·
  refine qL (qC (.q 0 (.done)) Kr ?_)
  refine qS rfl rfl rfl rfl (qR (qW [4] (e':=[(4,_)]) rfl ?_))
  refine qQ (qJ (qN ?_))
  rw [show nxF x k t o=x from if_neg hc]
  refine kD rfl rfl (()) (by rw [show nxE x k t o=6 from if_neg hc]) (by trivial) ?_
  exact Tf
 obtain ⟨o5,o7,o9,o10,o11⟩:=can_obj hx hc
 obtain ⟨n5,n6,n7,n9,n10,n11,nn⟩:=nxF_k hc
 obtain ⟨t0,t1,t2⟩:=stF_nz (can_th hc)
 refine qF (qQ (qL (cS (A:=rk pa pc b x) Tk ?_)))
 refine rk_open fun ta tc oa oc ba bc=>?_
 refine qC (.q 0 (.q 1 (.q 2 (.q 3 (.q 4 (.q 5 (.q 6 ((.l 7 [] (.done)))))))))) Kr ?_
 refine qK rfl rfl rfl rfl (qX rfl rfl rfl rfl (qG (k:=8) rfl rfl rfl rfl υ'157 rfl ζ'3 rfl ?_))
 refine qP (j:=8) rfl rfl rfl rfl α'3 Tk Az (by rfl) ?_
 refine qB rfl rfl rfl rfl rfl (cV _ (by exact kP Om Om)) ?_
 refine qX rfl rfl rfl rfl (qG (k:=8) rfl rfl rfl rfl υ'157 rfl ζ'3 rfl ?_)
 refine kH (j:=8) rfl rfl rfl rfl ζ'3 (us:=[_]) rfl rfl rfl Tk Az (by first | decide | (simp;done) | omega) ?_
 simp only [setL,List.set]
 refine qV (qR (qW [0,3] (e':=[(0,_),(3,_)]) rfl ?_))
 refine qQ (qL (qL (qC (.q 0 (.q 1 (.done))) Kr ?_)))
 refine qG (k:=0) rfl rfl rfl rfl υ'47 rfl ζ'45 rfl ?_
 refine qP (j:=0) rfl rfl rfl rfl α'45 Tk Az (by rfl) ?_
 refine qR (qQ (kC (qL (qC (.q 0 (.q 1 (.done))) Kr ?_))))
 refine qB rfl rfl rfl rfl rfl (cP _ _ _ _) ?_
 refine qS rfl rfl rfl rfl (qR (qQ ?_))
 refine qD rfl (fun k5=>?_) (fun k5=>?_)
 ·
  have hel:=owV_at (x:=x) (l:=o) (o5 (.inl k5)).1 (by have:=(o5 (.inl k5)).2;omega)
  have q5:=o5 (.inl k5)
  refine kL rfl (.q 0 (.q 1 (.q 2 (.q 3 (.q 4 (.q 5 (.q 6 (.q 7 (.q 8 ((.l 9 [] (.done)))))))))))) Kr ?_
  refine qK rfl rfl rfl rfl (qX rfl rfl rfl rfl (qG (k:=6) rfl rfl rfl rfl υ'157 rfl ζ'22 rfl ?_))
  refine qP (j:=6) rfl rfl rfl rfl α'22 Tk Az (by rfl) ?_
  refine qG (k:=2) rfl rfl rfl rfl υ'47 rfl ζ'3 rfl ?_
  refine qP (j:=2) rfl rfl rfl rfl α'3 Tk Az (by rfl) ?_
  refine qG (k:=1) rfl rfl rfl rfl υ'47 rfl ζ'3 rfl ?_
  refine qP (j:=1) rfl rfl rfl rfl α'3 Tk Az (by rfl) ?_
  refine kF (sz:=0) (k:=o.toNat) (enc:=encZ) (xs:=x.O) rfl rfl rfl rfl rfl υ'22 ζ'3 hel (by first | rfl | omega) Om Tk ?_
  intro ib33 io33 ha33 hl33 hc33
  refine sK (j:=0) (k:=o.toNat) (q:=t) (enc:=encZ) (off:=io33) rfl rfl rfl rfl ζ'3 (us:=[_]) rfl rfl rfl ha33 encZ_len hel Tk (by first | rfl | exact (Ad _).symm | omega) (by first | decide | exact Nat.le_of_ble_eq_true rfl) (by rfl) ?_
  refine qV (qR (qW [] (e':=[]) rfl ?_))
  refine kX (qQ (qL (qC (.q 0 (.done)) Kr ?_)))
  refine qS rfl rfl rfl rfl (qR (qQ (qJ ?_)))
  rw [n5 k5]
  refine rk_fold (b:=b) (⟨x.th,x.va,x.vo,x.lk,x.pa,x.T,x.O.set o.toNat t,x.B,x.n+1⟩) (pa:=pa) (pc:=pc) (ta:=ta) (tc:=tc) (oa:=oa) (oc:=oc) (ba:=ba) (bc:=bc) Ts (by rfl) (by rfl) (by simp) (by rfl) ?_
  refine kD rfl rfl (()) (by rw [show nxE x k t o=0 from if_pos hc]) (by trivial) ?_
  exact Tf
 refine qL (qC (.q 0 (.q 1 (.done))) Kr ?_)
 refine qB rfl rfl rfl rfl rfl (cP _ _ _ _) ?_
 refine qS rfl rfl rfl rfl (qR (qW [0,3,22,34] (e':=[(0,_),(3,_),(22,_),(34,_)]) rfl ?_))
 refine qQ ?_
 refine qD rfl (fun k6=>?_) (fun k6=>?_)
 ·
  have hel:=owV_at (x:=x) (l:=o) (o5 (.inr k6)).1 (by have:=(o5 (.inr k6)).2;omega)
  have q5:=o5 (.inr k6)
  refine kL rfl (.q 0 (.q 1 (.q 2 (.q 3 (.q 4 (.q 5 (.q 6 ((.l 7 [] (.done)))))))))) Kr ?_
  refine qK rfl rfl rfl rfl (qX rfl rfl rfl rfl (qG (k:=6) rfl rfl rfl rfl υ'157 rfl ζ'22 rfl ?_))
  refine qP (j:=6) rfl rfl rfl rfl α'22 Tk Az (by rfl) ?_
  refine qG (k:=2) rfl rfl rfl rfl υ'47 rfl ζ'3 rfl ?_
  refine qP (j:=2) rfl rfl rfl rfl α'3 Tk Az (by rfl) ?_
  refine kF (sz:=0) (k:=o.toNat) (enc:=encZ) (xs:=x.O) rfl rfl rfl rfl rfl υ'22 ζ'3 hel (by first | rfl | omega) Om Tk ?_
  intro ib42 io42 ha42 hl42 hc42
  refine sK (j:=0) (k:=o.toNat) (q:=(-1)) (enc:=encZ) (off:=io42) rfl rfl rfl rfl ζ'3 (us:=[_]) rfl rfl rfl ha42 encZ_len hel Tk (by first | rfl | exact (Ad _).symm | omega) (by first | decide | exact Nat.le_of_ble_eq_true rfl) (by rfl) ?_
  refine qV (qR (qW [] (e':=[]) rfl ?_))
  refine kX (qQ (qL (qC (.q 0 (.done)) Kr ?_)))
  refine qS rfl rfl rfl rfl (qR (qQ (qJ ?_)))
  rw [n6 k6]
  refine rk_fold (b:=b) (⟨x.th,x.va,x.vo,x.lk,x.pa,x.T,x.O.set o.toNat (-1),x.B,x.n+1⟩) (pa:=pa) (pc:=pc) (ta:=ta) (tc:=tc) (oa:=oa) (oc:=oc) (ba:=ba) (bc:=bc) Ts (by rfl) (by rfl) (by simp) (by rfl) ?_
  refine kD rfl rfl (()) (by rw [show nxE x k t o=0 from if_pos hc]) (by trivial) ?_
  exact Tf
 refine qL (qC (.q 0 (.q 1 (.done))) Kr ?_)
 refine qB rfl rfl rfl rfl rfl (cP _ _ _ _) ?_
 refine qS rfl rfl rfl rfl (qR (qQ ?_))
 refine qD rfl (fun k7=>?_) (fun k7=>?_)
 ·
  have q7:=o7 k7
  have hel:=stF_at (x:=x) (t:=o) q7.1 Om
  have hz:(stF x o).2=(0,0):=(stF_inv hx o).2.2.2 (by rw [q7.2.2];decide)
  refine kL rfl (.q 0 (.q 1 (.q 2 (.q 3 (.q 4 (.q 5 (.q 6 (.q 7 ((.l 8 [] (.done))))))))))) Kr ?_
  refine qK rfl rfl rfl rfl (qX rfl rfl rfl rfl (qG (k:=5) rfl rfl rfl rfl υ'157 rfl ζ'155 rfl ?_))
  refine qP (j:=5) rfl rfl rfl rfl α'155 Tk Az (by rfl) ?_
  refine qG (k:=2) rfl rfl rfl rfl υ'47 rfl ζ'3 rfl ?_
  refine qP (j:=2) rfl rfl rfl rfl α'3 Tk Az (by rfl) ?_
  refine kF (sz:=2) (k:=o.toNat) (enc:=enc3) (xs:=x.T) rfl rfl rfl rfl rfl υ'155 ζ'166 hel (by first | rfl | omega) Om Tk ?_
  intro ib51 io51 ha51 hl51 hc51
  refine qG (k:=0) rfl rfl rfl rfl υ'166 rfl ζ'164 rfl ?_
  refine sK (j:=0) (k:=o.toNat) (q:=(1,0,0)) (enc:=enc3) (off:=io51) rfl rfl rfl rfl ζ'164 (us:=[_]) rfl rfl rfl ha51 enc3_len hel Tk (by first | rfl | exact (Ad _).symm | omega) (by first | decide | exact Nat.le_of_ble_eq_true rfl) (by show [Value.int .i64 1,.int .i64 0,.int .i64 0]=[Value.int .i64 1,.int .i64 (stF x o).2.1,.int .i64 (stF x o).2.2];rw [hz]) ?_
  refine qV (qR (qW [] (e':=[]) rfl ?_))
  refine kX (qQ (qL (qC (.q 0 (.done)) Kr ?_)))
  refine qS rfl rfl rfl rfl (qR (qQ (qJ ?_)))
  rw [n7 k7]
  refine rk_fold (b:=b) (⟨x.th,x.va,x.vo,x.lk,x.pa,x.T.set o.toNat (1,0,0),x.O,x.B,x.n+1⟩) (pa:=pa) (pc:=pc) (ta:=ta) (tc:=tc) (oa:=oa) (oc:=oc) (ba:=ba) (bc:=bc) Ts (by rfl) (by simp) (by rfl) (by rfl) ?_
  refine kD rfl rfl (()) (by rw [show nxE x k t o=0 from if_pos hc]) (by trivial) ?_
  exact Tf
 refine qL (qC (.q 0 (.q 1 (.done))) Kr ?_)
 refine qB rfl rfl rfl rfl rfl (cP _ _ _ _) ?_
 refine qS rfl rfl rfl rfl (qR (qW [0,3,22,53] (e':=[(0,_),(3,_),(22,_),(53,_)]) rfl ?_))
 refine qQ ?_
 refine qD rfl (fun k9=>?_) (fun k9=>?_)
 ·
  refine qL ?_
  obtain ⟨p0,p1,p2,p3⟩:=o9 k9
  have hop:=opF_at (x:=x) (b:=o) p0 Om
  obtain ⟨pp,hpp⟩:=cR p2
  have hbp:=hx.op _ _ _ hop hpp
  have hpr:=hx.sh.pa pp (List.mem_of_getElem? hpp)
  refine kL rfl (.q 0 (.q 1 (.q 2 (.q 3 (.q 4 (.q 5 (.q 6 (.q 7 ((.l 8 [3,5,7] ((.l 9 [] (.done))))))))))))) Kr ?_
  refine qK rfl rfl rfl rfl (qX rfl rfl rfl rfl (qG (k:=7) rfl rfl rfl rfl υ'157 rfl ζ'132 rfl ?_))
  refine qP (j:=7) rfl rfl rfl rfl α'132 Tk Az (by rfl) ?_
  refine qG (k:=2) rfl rfl rfl rfl υ'47 rfl ζ'3 rfl ?_
  refine qP (j:=2) rfl rfl rfl rfl α'3 Tk Az (by rfl) ?_
  refine kF (sz:=1) (k:=o.toNat) (enc:=enc2) (xs:=x.B) rfl rfl rfl rfl rfl υ'132 ζ'141 hop (by first | rfl | omega) Om Tk ?_
  intro ib61 io61 ha61 hl61 hc61
  refine q_loadN_O (j:=0) (k':=o.toNat) (us:=[_,_]) (enc:=enc2) (off:=io61) rfl rfl rfl rfl α'141 ζ'141 ha61 enc2_len hop Tk (by first | rfl | exact (Ad _).symm | omega) (by rfl) rfl ?_
  refine sD rfl rfl rfl ω'141 (zs:=[.int .i64 0,.int .i64 0]) rfl ?_
  intro b6
  refine qH (q:=7) rfl rfl rfl α'132 Tk Az (by rfl) ?_
  refine qH (q:=2) rfl rfl rfl α'3 Tk Az (by rfl) ?_
  refine ag_loadN_O (j:=0) (k':=o.toNat) (us:=[_,_]) (enc:=enc2) (off:=io61) rfl rfl rfl α'141 ζ'141 ha61 enc2_len hop Tk (by first | rfl | exact (Ad _).symm | omega) (by rfl) rfl ?_
  refine qV (kH (j:=0) rfl rfl rfl rfl ζ'141 (us:=[_,_]) rfl rfl rfl Tk Az (by first | decide | (simp;done) | omega) ?_)
  simp only [setL,List.set]
  refine qV (qR (qW [0,3,6] (e':=[(0,_),(3,_),(6,_)]) rfl ?_))
  refine qQ (qL (kL rfl (.q 0 (.q 1 (.q 2 (.q 3 (.q 4 (.q 5 (.q 6 (.q 7 (.q 8 (.q 9 (.q 10 (.q 11 ((.l 12 [] (.done))))))))))))))) Kr ?_))
  refine qK rfl rfl rfl rfl (qX rfl rfl rfl rfl (qG (k:=5) rfl rfl rfl rfl υ'157 rfl ζ'155 rfl ?_))
  refine qP (j:=5) rfl rfl rfl rfl α'155 Tk Az (by rfl) ?_
  refine qG (k:=1) rfl rfl rfl rfl υ'47 rfl ζ'3 rfl ?_
  refine qP (j:=1) rfl rfl rfl rfl α'3 Tk Az (by rfl) ?_
  refine qG (k:=2) rfl rfl rfl rfl υ'47 rfl ζ'3 rfl ?_
  refine qP (j:=2) rfl rfl rfl rfl α'3 Tk Az (by rfl) ?_
  refine qG (k:=0) rfl rfl rfl rfl υ'141 rfl ζ'3 rfl ?_
  refine qP (j:=0) rfl rfl rfl rfl α'3 Tk Az (by rfl) ?_
  refine cC rfl rfl rfl rfl (vs:=[_,_,_]) (kV υ'166 ω'166 (ps:=[(0,1),(1,1),(2,1)]) ⟨rfl,ζ'164,rfl,ζ'3,rfl,ζ'3,trivial⟩ rfl) ?_
  refine kF (sz:=2) (k:=t.toNat) (enc:=enc3) (xs:=x.T) rfl rfl rfl rfl rfl υ'155 ζ'166 t2 (by first | rfl | omega) Om Tk ?_
  intro ib74 io74 ha74 hl74 hc74
  refine sK (j:=0) (k:=t.toNat) (q:=(2,o,(opF x o).1)) (enc:=enc3) (off:=io74) rfl rfl rfl rfl ζ'166 (us:=[_,_,_]) rfl rfl rfl ha74 enc3_len t2 Tk (by first | rfl | exact (Ad _).symm | omega) (by first | decide | exact Nat.le_of_ble_eq_true rfl) (by rfl) ?_
  refine qV (qR (qW [0,3,6] (e':=[(0,_),(3,_),(6,_)]) rfl ?_))
  refine qQ (qL (qC (.q 0 (.q 1 (.q 2 (.q 3 ((.l 4 [] (.done))))))) Kr ?_))
  refine qG (k:=1) rfl rfl rfl rfl υ'141 rfl ζ'3 rfl ?_
  refine qP (j:=1) rfl rfl rfl rfl α'3 Tk Az (by rfl) ?_
  refine qB rfl rfl rfl rfl rfl (cV _ (by exact kP Om Om)) ?_
  refine qG (k:=1) rfl rfl rfl rfl υ'141 rfl ζ'3 rfl ?_
  refine kH (j:=1) rfl rfl rfl rfl ζ'3 (us:=[_]) rfl rfl rfl Tk Az (by first | decide | (simp;done) | omega) ?_
  simp only [setL,List.set]
  refine qV (qR (qW [0,3,6] (e':=[(0,_),(3,_),(6,_)]) rfl ?_))
  refine qQ (qL (qL ?_))
  rw [hpl] at hpp p2
  refine kL rfl (.q 0 (.q 1 (.q 2 (.q 3 (.q 4 (.q 5 (.q 6 (.q 7 (.q 8 (.q 9 (.q 10 (.q 11 (.done))))))))))))) Kr ?_
  refine qG (k:=1) rfl rfl rfl rfl υ'141 rfl ζ'3 rfl ?_
  refine qP (j:=1) rfl rfl rfl rfl α'3 Tk Az (by rfl) ?_
  refine qK rfl rfl rfl rfl (qX rfl rfl rfl rfl (qG (k:=0) rfl rfl rfl rfl υ'157 rfl ζ'24 rfl ?_))
  refine qG (k:=4) rfl rfl rfl rfl υ'24 rfl ζ'22 rfl ?_
  refine qP (j:=4) rfl rfl rfl rfl α'22 Tk Az (by rfl) ?_
  refine qG (k:=2) rfl rfl rfl rfl υ'47 rfl ζ'3 rfl ?_
  refine qP (j:=2) rfl rfl rfl rfl α'3 Tk Az (by rfl) ?_
  refine kF (sz:=0) (k:=o.toNat) (enc:=encZ) (xs:=pl) rfl rfl rfl rfl rfl υ'22 ζ'3 hpp Om (by rw [hpl];omega) Tk ?_
  intro ib88 io88 ha88 hl88 hc88
  refine kS (v:=(.int .i64 pp)) (j:=0) (k':=o.toNat) (enc:=encZ) (off:=io88) rfl rfl rfl rfl α'3 ha88 encZ_len hpp Tk (by first | rfl | exact (Ad _).symm | omega) (by rfl) ?_
  refine qB rfl rfl rfl rfl rfl (cP _ _ _ _) ?_
  refine qR (qW [0,3,6,90] (e':=[(0,_),(3,_),(6,_),(90,_)]) rfl ?_)
  refine qQ ?_
  refine qD rfl (fun hful=>?_) (fun hful=>?_)
  ·
   refine qC (.q 0 (.q 1 (.q 2 (.q 3 ((.l 4 [] (.done))))))) Kr ?_
   refine qG (k:=0) rfl rfl rfl rfl υ'141 rfl ζ'3 rfl ?_
   refine qP (j:=0) rfl rfl rfl rfl α'3 Tk Az (by rfl) ?_
   refine qB rfl rfl rfl rfl rfl (cV _ (by exact kP Om Om)) ?_
   refine cC rfl rfl rfl rfl (vs:=[_,_]) (kV υ'141 ω'141 (ps:=[(0,1),(1,1)]) ⟨rfl,ζ'3,rfl,ζ'3,trivial⟩ rfl) ?_
   refine kH (j:=0) rfl rfl rfl rfl ζ'141 (us:=[_,_]) rfl rfl rfl Tk Az (by first | decide | (simp;done) | omega) ?_
   simp only [setL,List.set]
   refine qV (qR (qW [0,3,6] (e':=[(0,_),(3,_),(6,_)]) rfl ?_))
   refine qQ (kL rfl (.q 0 (.q 1 (.q 2 (.q 3 (.q 4 (.q 5 (.q 6 (.q 7 ((.l 8 [] (.done))))))))))) Kr ?_)
   refine qK rfl rfl rfl rfl (qX rfl rfl rfl rfl (qG (k:=7) rfl rfl rfl rfl υ'157 rfl ζ'132 rfl ?_))
   refine qP (j:=7) rfl rfl rfl rfl α'132 Tk Az (by rfl) ?_
   refine qG (k:=2) rfl rfl rfl rfl υ'47 rfl ζ'3 rfl ?_
   refine qP (j:=2) rfl rfl rfl rfl α'3 Tk Az (by rfl) ?_
   refine kG rfl rfl rfl rfl α'141 ζ'141 Tk 0 (us:=[_,_]) Az rfl rfl ?_
   refine kF (sz:=1) (k:=o.toNat) (enc:=enc2) (xs:=x.B) rfl rfl rfl rfl rfl υ'132 ζ'141 hop (by first | rfl | omega) Om Tk ?_
   intro ib102 io102 ha102 hl102 hc102
   refine sK (j:=0) (k:=o.toNat) (q:=(((opF x o).1)+1,0)) (enc:=enc2) (off:=io102) rfl rfl rfl rfl ζ'141 (us:=[_,_]) rfl rfl rfl ha102 enc2_len hop Tk (by first | rfl | exact (Ad _).symm | omega) (by first | decide | exact Nat.le_of_ble_eq_true rfl) (by rfl) ?_
   refine qV (qR (qW [] (e':=[]) rfl ?_))
   refine kX (qQ (qL (qC (.q 0 (.done)) Kr ?_)))
   refine qS rfl rfl rfl rfl (qR (qQ (qJ ?_)))
   rw [n9 k9,hpl,getD_some hpp,← hpl,show arrF (opF x o) pp=((opF x o).1+1,0) from if_pos hful]
   refine rk_fold (b:=b) (⟨x.th,x.va,x.vo,x.lk,x.pa,x.T.set t.toNat (2,o,(opF x o).1),x.O,x.B.set o.toNat ((opF x o).1+1,0),x.n+1⟩) (pa:=pa) (pc:=pc) (ta:=ta) (tc:=tc) (oa:=oa) (oc:=oc) (ba:=ba) (bc:=bc) Ts (by rfl) (by simp) (by rfl) (by simp) ?_
   refine kD rfl rfl (()) (by rw [show nxE x k t o=0 from if_pos hc]) (by trivial) ?_
   exact Tf
  refine qF (qQ (kL rfl (.q 0 (.q 1 (.q 2 (.q 3 (.q 4 (.q 5 (.q 6 (.q 7 ((.l 8 [] (.done))))))))))) Kr ?_))
  refine qK rfl rfl rfl rfl (qX rfl rfl rfl rfl (qG (k:=7) rfl rfl rfl rfl υ'157 rfl ζ'132 rfl ?_))
  refine qP (j:=7) rfl rfl rfl rfl α'132 Tk Az (by rfl) ?_
  refine qG (k:=2) rfl rfl rfl rfl υ'47 rfl ζ'3 rfl ?_
  refine qP (j:=2) rfl rfl rfl rfl α'3 Tk Az (by rfl) ?_
  refine kG rfl rfl rfl rfl α'141 ζ'141 Tk 0 (us:=[_,_]) Az rfl rfl ?_
  refine kF (sz:=1) (k:=o.toNat) (enc:=enc2) (xs:=x.B) rfl rfl rfl rfl rfl υ'132 ζ'141 hop (by first | rfl | omega) Om Tk ?_
  intro ib102 io102 ha102 hl102 hc102
  refine sK (j:=0) (k:=o.toNat) (q:=((opF x o).1,((opF x o).2)+1)) (enc:=enc2) (off:=io102) rfl rfl rfl rfl ζ'141 (us:=[_,_]) rfl rfl rfl ha102 enc2_len hop Tk (by first | rfl | exact (Ad _).symm | omega) (by first | decide | exact Nat.le_of_ble_eq_true rfl) (by rfl) ?_
  refine qV (qR (qW [] (e':=[]) rfl ?_))
  refine kX (qQ (qL (qC (.q 0 (.done)) Kr ?_)))
  refine qS rfl rfl rfl rfl (qR (qQ (qJ ?_)))
  rw [n9 k9,hpl,getD_some hpp,← hpl,show arrF (opF x o) pp=((opF x o).1,(opF x o).2+1) from if_neg hful]
  refine rk_fold (b:=b) (⟨x.th,x.va,x.vo,x.lk,x.pa,x.T.set t.toNat (2,o,(opF x o).1),x.O,x.B.set o.toNat ((opF x o).1,(opF x o).2+1),x.n+1⟩) (pa:=pa) (pc:=pc) (ta:=ta) (tc:=tc) (oa:=oa) (oc:=oc) (ba:=ba) (bc:=bc) Ts (by rfl) (by simp) (by rfl) (by simp) ?_
  refine kD rfl rfl (()) (by rw [show nxE x k t o=0 from if_pos hc]) (by trivial) ?_
  exact Tf
 refine qL (qC (.q 0 (.q 1 (.done))) Kr ?_)
 refine qB rfl rfl rfl rfl rfl (cP _ _ _ _) ?_
 refine qS rfl rfl rfl rfl (qR (qQ ?_))
 refine qD rfl (fun k10=>?_) (fun k10=>?_)
 ·
  refine kL rfl (.q 0 (.q 1 (.q 2 (.q 3 (.q 4 (.q 5 (.q 6 (.q 7 ((.l 8 [] (.done))))))))))) Kr ?_
  refine qK rfl rfl rfl rfl (qX rfl rfl rfl rfl (qG (k:=5) rfl rfl rfl rfl υ'157 rfl ζ'155 rfl ?_))
  refine qP (j:=5) rfl rfl rfl rfl α'155 Tk Az (by rfl) ?_
  refine qG (k:=1) rfl rfl rfl rfl υ'47 rfl ζ'3 rfl ?_
  refine qP (j:=1) rfl rfl rfl rfl α'3 Tk Az (by rfl) ?_
  refine cC rfl rfl rfl rfl (vs:=[_,_,_]) (kV υ'166 ω'166 (ps:=[(0,1),(1,1),(2,1)]) ⟨rfl,ζ'164,rfl,ζ'3,rfl,ζ'3,trivial⟩ rfl) ?_
  refine kF (sz:=2) (k:=t.toNat) (enc:=enc3) (xs:=x.T) rfl rfl rfl rfl rfl υ'155 ζ'166 t2 (by first | rfl | omega) Om Tk ?_
  intro ib112 io112 ha112 hl112 hc112
  refine sK (j:=0) (k:=t.toNat) (q:=(1,0,0)) (enc:=enc3) (off:=io112) rfl rfl rfl rfl ζ'166 (us:=[_,_,_]) rfl rfl rfl ha112 enc3_len t2 Tk (by first | rfl | exact (Ad _).symm | omega) (by first | decide | exact Nat.le_of_ble_eq_true rfl) (by rfl) ?_
  refine qV (qR (qW [] (e':=[]) rfl ?_))
  refine kX (qQ (qL (qC (.q 0 (.done)) Kr ?_)))
  refine qS rfl rfl rfl rfl (qR (qQ (qJ ?_)))
  rw [n10 k10]
  refine rk_fold (b:=b) (⟨x.th,x.va,x.vo,x.lk,x.pa,x.T.set t.toNat (1,0,0),x.O,x.B,x.n+1⟩) (pa:=pa) (pc:=pc) (ta:=ta) (tc:=tc) (oa:=oa) (oc:=oc) (ba:=ba) (bc:=bc) Ts (by rfl) (by simp) (by rfl) (by rfl) ?_
  refine kD rfl rfl (()) (by rw [show nxE x k t o=0 from if_pos hc]) (by trivial) ?_
  exact Tf
 refine qL (qC (.q 0 (.q 1 (.done))) Kr ?_)
 refine qB rfl rfl rfl rfl rfl (cP _ _ _ _) ?_
 refine qS rfl rfl rfl rfl (qR (qW [0,3,113] (e':=[(0,_),(3,_),(113,_)]) rfl ?_))
 refine qQ ?_
 refine qD rfl (fun k11=>?_) (fun k11=>?_)
 ·
  refine kL rfl (.q 0 (.q 1 (.q 2 (.q 3 (.q 4 (.q 5 (.q 6 (.q 7 ((.l 8 [] (.done))))))))))) Kr ?_
  refine qK rfl rfl rfl rfl (qX rfl rfl rfl rfl (qG (k:=5) rfl rfl rfl rfl υ'157 rfl ζ'155 rfl ?_))
  refine qP (j:=5) rfl rfl rfl rfl α'155 Tk Az (by rfl) ?_
  refine qG (k:=1) rfl rfl rfl rfl υ'47 rfl ζ'3 rfl ?_
  refine qP (j:=1) rfl rfl rfl rfl α'3 Tk Az (by rfl) ?_
  refine cC rfl rfl rfl rfl (vs:=[_,_,_]) (kV υ'166 ω'166 (ps:=[(0,1),(1,1),(2,1)]) ⟨rfl,ζ'164,rfl,ζ'3,rfl,ζ'3,trivial⟩ rfl) ?_
  refine kF (sz:=2) (k:=t.toNat) (enc:=enc3) (xs:=x.T) rfl rfl rfl rfl rfl υ'155 ζ'166 t2 (by first | rfl | omega) Om Tk ?_
  intro ib122 io122 ha122 hl122 hc122
  refine sK (j:=0) (k:=t.toNat) (q:=(3,0,0)) (enc:=enc3) (off:=io122) rfl rfl rfl rfl ζ'166 (us:=[_,_,_]) rfl rfl rfl ha122 enc3_len t2 Tk (by first | rfl | exact (Ad _).symm | omega) (by first | decide | exact Nat.le_of_ble_eq_true rfl) (by rfl) ?_
  refine qV (qR (qW [] (e':=[]) rfl ?_))
  refine kX (qQ (qL (qC (.q 0 (.done)) Kr ?_)))
  refine qS rfl rfl rfl rfl (qR (qQ (qJ ?_)))
  rw [n11 k11]
  refine rk_fold (b:=b) (⟨x.th,x.va,x.vo,x.lk,x.pa,x.T.set t.toNat (3,0,0),x.O,x.B,x.n+1⟩) (pa:=pa) (pc:=pc) (ta:=ta) (tc:=tc) (oa:=oa) (oc:=oc) (ba:=ba) (bc:=bc) Ts (by rfl) (by simp) (by rfl) (by rfl) ?_
  refine kD rfl rfl (()) (by rw [show nxE x k t o=0 from if_pos hc]) (by trivial) ?_
  exact Tf
 refine qF (kX (qQ (qL (qC (.q 0 (.done)) Kr ?_))))
 refine qS rfl rfl rfl rfl (qR (qQ (qJ ?_)))
 rw [nn k5 k6 k7 k9 k10 k11]
 refine rk_fold (b:=b) (⟨x.th,x.va,x.vo,x.lk,x.pa,x.T,x.O,x.B,x.n+1⟩) (pa:=pa) (pc:=pc) (ta:=ta) (tc:=tc) (oa:=oa) (oc:=oc) (ba:=ba) (bc:=bc) Ts (by rfl) (by rfl) (by rfl) (by rfl) ?_
 refine kD rfl rfl (()) (by rw [show nxE x k t o=0 from if_pos hc]) (by trivial) ?_
 exact Tf
theorem rlen_spec (pa:Option Addr) (pc b:Nat) (x:CS):Spec Tryz.prog 37 [.pointer (some ⟨b,0,none⟩)] [rk pa pc b x] (fun (_:Unit)=>.int .i64 x.n) (fun _=>True) (fun _=>[rk pa pc b x]):=by
 refine kQ (n:=9) Tryz.func37 rfl rfl rfl ?_
 intro Γ w0
 simp only [argE,Ca,Na,Zd,Nat.reduceAdd]
 refine qL (qC (.q 0 (.done)) Kr ?_)
 refine qS rfl rfl rfl rfl (qR (qQ (qL (qL (qC (.q 0 (.q 1 (.done))) Kr ?_)))))
 refine qK rfl rfl rfl rfl (cG rfl rfl rfl rfl υ'107 ?_)
 refine kB 4 rfl (v':=.bool false) rfl ?_
 refine qR (qQ (kZ rfl ?_))
 refine qF (qQ (qL (cS (A:=rk pa pc b x) Tk ?_)))
 refine rk_open fun ta tc oa oc ba bc=>?_
 refine qC (.q 0 (.q 1 (.q 2 (.q 3 (.q 4 (.done)))))) Kr ?_
 refine qK rfl rfl rfl rfl (qX rfl rfl rfl rfl (qG (k:=8) rfl rfl rfl rfl υ'157 rfl ζ'3 rfl ?_))
 refine qP (j:=8) rfl rfl rfl rfl α'3 Tk Az (by rfl) ?_
 refine qS rfl rfl rfl rfl (qR (qW [2] (e':=[(2,_)]) rfl ?_))
 refine qQ (qJ (rk_fold (b:=b) x (pa:=pa) (pc:=pc) (ta:=ta) (tc:=tc) (oa:=oa) (oc:=oc) (ba:=ba) (bc:=bc) Ts (by rfl) (by rfl) (by rfl) (by rfl) ?_))
 refine kD rfl rfl (()) (by first | rfl | (first | rfl | (congr 1;done) | (congr 1 <;> first | rfl | omega | (simp;done) | (simp;omega)))) (by trivial) ?_
 exact Tf
theorem rstand_spec (pa:Option Addr) (pc b:Nat) (x:CS) (hx:CInv x) (t:Int):Spec Tryz.prog 83 [.pointer (some ⟨b,0,none⟩),.int .i64 t] [rk pa pc b x] (fun (_:Unit)=>.tuple #[ev3 (stF x t),.int .i64 (if 0≤t∧t < x.th then 0 else 2)]) (fun _=>True) (fun _=>[rk pa pc b x]):=by
 refine kQ (n:=25) Tryz.func83 rfl rfl rfl ?_
 intro Γ w0
 simp only [argE,Ca,Na,Zd,Nat.reduceAdd]
 have htl:=hx.tl
 have hol:=hx.ol
 have hbl:=hx.bl
 refine qL (qC ((.l 0 [] (.q 1 (.done)))) Kr ?_)
 refine sD rfl rfl rfl ω'166 (zs:=[.int .i64 0,.int .i64 0,.int .i64 0]) rfl ?_
 intro b4
 refine qV (qS rfl rfl rfl rfl (qR (qQ (qL (qL (qC (.q 0 (.q 1 (.done))) Kr ?_))))))
 refine qK rfl rfl rfl rfl (cG rfl rfl rfl rfl υ'107 ?_)
 refine kB 7 rfl (v':=.bool false) rfl ?_
 refine qR (qQ (kZ rfl ?_))
 refine qF (qQ (qL (qL (cS (A:=rk pa pc b x) Tk ?_))))
 refine rk_open fun ta tc oa oc ba bc=>?_
 refine qC (.q 0 (.q 1 (.q 2 (.q 3 (.q 4 (.q 5 ((.l 6 [] (.q 7 (.done)))))))))) Kr ?_
 refine qK rfl rfl rfl rfl (qK rfl rfl rfl rfl (qX rfl rfl rfl rfl (qG (k:=5) rfl rfl rfl rfl υ'157 rfl ζ'155 rfl ?_)))
 refine qP (j:=5) rfl rfl rfl rfl α'155 Tk Az (by rfl) ?_
 refine cJ rfl rfl rfl rfl υ'155 ?_
 have sp_1:=below_spec t ((x.T.length:Nat):Int)
 refine qM rfl rfl rfl rfl rfl rfl κ'103 (sp_1) Ts ?_
 rintro ⟨⟩ -
 try simp only [Ca,Na]
 refine qV (sY rfl rfl rfl rfl ?_)
 refine qR (qW [0,1,4,16] (e':=[(0,_),(1,_),(4,_),(16,_)]) rfl ?_)
 refine qQ ?_
 refine c_cond_np rfl (fun hin=>?_) (fun hin=>?_)
 ·
  have hno:¬ (0≤t∧t < x.th):=fun h=>hin Om
  refine qL (qC (.q 0 ((.l 1 [] (.q 2 (.done))))) Kr ?_)
  refine cC rfl rfl rfl rfl (vs:=[_,_,_]) (kV υ'166 ω'166 (ps:=[(0,1),(1,1),(2,1)]) ⟨rfl,ζ'164,rfl,ζ'3,rfl,ζ'3,trivial⟩ rfl) ?_
  refine kH (j:=0) rfl rfl rfl rfl ζ'166 (us:=[_,_,_]) rfl rfl rfl Tk Az (by first | decide | (simp;done) | omega) ?_
  simp only [setL,List.set]
  refine qV (qS rfl rfl rfl rfl (qR (qW [4,5] (e':=[(4,_),(5,_)]) rfl ?_)))
  refine qQ (qJ (qN (rk_fold (b:=b) x (pa:=pa) (pc:=pc) (ta:=ta) (tc:=tc) (oa:=oa) (oc:=oc) (ba:=ba) (bc:=bc) Ts (by rfl) (by rfl) (by rfl) (by rfl) ?_)))
  refine retL (us:=[_,_]) rfl ⟨rv_cellN rfl α'166 ζ'166 Tk 0 rfl (us:=[_,_,_]) rfl rfl,rv_tmp rfl,trivial⟩ (()) (by rw [if_neg hno,stF_out Om];rfl) (by trivial) ?_
  exact Tf
 have hyes:0≤t∧t < x.th:=by omega
 have hel:=stF_at (x:=x) (t:=t) hin.1 hin.2
 refine qF (qQ (qL (qC (.q 0 (.q 1 (.q 2 (.q 3 (.q 4 (.q 5 (.q 6 ((.l 7 [] (.q 8 (.done))))))))))) Kr ?_)))
 refine qK rfl rfl rfl rfl (qX rfl rfl rfl rfl (qG (k:=5) rfl rfl rfl rfl υ'157 rfl ζ'155 rfl ?_))
 refine qP (j:=5) rfl rfl rfl rfl α'155 Tk Az (by rfl) ?_
 refine qK rfl rfl rfl rfl (kF (sz:=2) (k:=t.toNat) (enc:=enc3) (xs:=x.T) rfl rfl rfl rfl rfl υ'155 ζ'166 hel (by first | rfl | omega) Om Tk ?_)
 intro ib23 io23 ha23 hl23 hc23
 refine q_loadN_O (j:=0) (k':=t.toNat) (us:=[_,_,_]) (enc:=enc3) (off:=io23) rfl rfl rfl rfl α'166 ζ'166 ha23 enc3_len hel Tk (by first | rfl | exact (Ad _).symm | omega) (by rfl) rfl ?_
 refine kH (j:=0) rfl rfl rfl rfl ζ'166 (us:=[_,_,_]) rfl rfl rfl Tk Az (by first | decide | (simp;done) | omega) ?_
 simp only [setL,List.set]
 refine qV (qS rfl rfl rfl rfl (qR (qW [4,5] (e':=[(4,_),(5,_)]) rfl ?_)))
 refine qQ (qJ (rk_fold (b:=b) x (pa:=pa) (pc:=pc) (ta:=ta) (tc:=tc) (oa:=oa) (oc:=oc) (ba:=ba) (bc:=bc) Ts (by rfl) (by rfl) (by rfl) (by rfl) ?_))
 refine retL (us:=[_,_]) rfl ⟨rv_cellN rfl α'166 ζ'166 Tk 0 rfl (us:=[_,_,_]) rfl rfl,rv_tmp rfl,trivial⟩ (()) (by rw [if_pos hyes];rfl) (by trivial) ?_
 exact Tf
theorem rround_spec (pa:Option Addr) (pc b:Nat) (x:CS) (l:Int):Spec Tryz.prog 81 [.pointer (some ⟨b,0,none⟩),.int .i64 l] [rk pa pc b x] (fun (_:Unit)=>.tuple #[ev2 (if 0≤l∧l < (x.B.length:Int) then opF x l else (0,0)),.int .i64 (if 0≤l∧l < (x.B.length:Int) then 0 else 2)]) (fun _=>True) (fun _=>[rk pa pc b x]):=by
 refine kQ (n:=25) Tryz.func81 rfl rfl rfl ?_
 intro Γ w0
 simp only [argE,Ca,Na,Zd,Nat.reduceAdd]
 refine qL (qC ((.l 0 [] (.q 1 (.done)))) Kr ?_)
 refine sD rfl rfl rfl ω'141 (zs:=[.int .i64 0,.int .i64 0]) rfl ?_
 intro b4
 refine qV (qS rfl rfl rfl rfl (qR (qQ (qL (qL (qC (.q 0 (.q 1 (.done))) Kr ?_))))))
 refine qK rfl rfl rfl rfl (cG rfl rfl rfl rfl υ'107 ?_)
 refine kB 7 rfl (v':=.bool false) rfl ?_
 refine qR (qQ (kZ rfl ?_))
 refine qF (qQ (qL (qL (cS (A:=rk pa pc b x) Tk ?_))))
 refine rk_open fun ta tc oa oc ba bc=>?_
 refine qC (.q 0 (.q 1 (.q 2 (.q 3 (.q 4 (.q 5 ((.l 6 [] (.q 7 (.done)))))))))) Kr ?_
 refine qK rfl rfl rfl rfl (qK rfl rfl rfl rfl (qX rfl rfl rfl rfl (qG (k:=7) rfl rfl rfl rfl υ'157 rfl ζ'132 rfl ?_)))
 refine qP (j:=7) rfl rfl rfl rfl α'132 Tk Az (by rfl) ?_
 refine cJ rfl rfl rfl rfl υ'132 ?_
 have sp_1:=below_spec l ((x.B.length:Nat):Int)
 refine qM rfl rfl rfl rfl rfl rfl κ'103 (sp_1) Ts ?_
 rintro ⟨⟩ -
 try simp only [Ca,Na]
 refine qV (sY rfl rfl rfl rfl ?_)
 refine qR (qW [0,1,4,16] (e':=[(0,_),(1,_),(4,_),(16,_)]) rfl ?_)
 refine qQ ?_
 refine c_cond_np rfl (fun hin=>?_) (fun hin=>?_)
 ·
  have hno:¬ (0≤l∧l < (x.B.length:Int)):=fun h=>hin Om
  refine qL (qC (.q 0 ((.l 1 [] (.q 2 (.done))))) Kr ?_)
  refine cC rfl rfl rfl rfl (vs:=[_,_]) (kV υ'141 ω'141 (ps:=[(0,1),(1,1)]) ⟨rfl,ζ'3,rfl,ζ'3,trivial⟩ rfl) ?_
  refine kH (j:=0) rfl rfl rfl rfl ζ'141 (us:=[_,_]) rfl rfl rfl Tk Az (by first | decide | (simp;done) | omega) ?_
  simp only [setL,List.set]
  refine qV (qS rfl rfl rfl rfl (qR (qW [4,5] (e':=[(4,_),(5,_)]) rfl ?_)))
  refine qQ (qJ (qN (rk_fold (b:=b) x (pa:=pa) (pc:=pc) (ta:=ta) (tc:=tc) (oa:=oa) (oc:=oc) (ba:=ba) (bc:=bc) Ts (by rfl) (by rfl) (by rfl) (by rfl) ?_)))
  refine retL (us:=[_,_]) rfl ⟨rv_cellN rfl α'141 ζ'141 Tk 0 rfl (us:=[_,_]) rfl rfl,rv_tmp rfl,trivial⟩ (()) (by rw [if_neg hno,if_neg hno];rfl) (by trivial) ?_
  exact Tf
 have hyes:0≤l∧l < (x.B.length:Int):=by omega
 have hel:=opF_at (x:=x) (b:=l) hin.1 hin.2
 refine qF (qQ (qL (qC (.q 0 (.q 1 (.q 2 (.q 3 (.q 4 (.q 5 (.q 6 ((.l 7 [] (.q 8 (.done))))))))))) Kr ?_)))
 refine qK rfl rfl rfl rfl (qX rfl rfl rfl rfl (qG (k:=7) rfl rfl rfl rfl υ'157 rfl ζ'132 rfl ?_))
 refine qP (j:=7) rfl rfl rfl rfl α'132 Tk Az (by rfl) ?_
 refine qK rfl rfl rfl rfl (kF (sz:=1) (k:=l.toNat) (enc:=enc2) (xs:=x.B) rfl rfl rfl rfl rfl υ'132 ζ'141 hel (by first | rfl | omega) Om Tk ?_)
 intro ib23 io23 ha23 hl23 hc23
 refine q_loadN_O (j:=0) (k':=l.toNat) (us:=[_,_]) (enc:=enc2) (off:=io23) rfl rfl rfl rfl α'141 ζ'141 ha23 enc2_len hel Tk (by first | rfl | exact (Ad _).symm | omega) (by rfl) rfl ?_
 refine kH (j:=0) rfl rfl rfl rfl ζ'141 (us:=[_,_]) rfl rfl rfl Tk Az (by first | decide | (simp;done) | omega) ?_
 simp only [setL,List.set]
 refine qV (qS rfl rfl rfl rfl (qR (qW [4,5] (e':=[(4,_),(5,_)]) rfl ?_)))
 refine qQ (qJ (rk_fold (b:=b) x (pa:=pa) (pc:=pc) (ta:=ta) (tc:=tc) (oa:=oa) (oc:=oc) (ba:=ba) (bc:=bc) Ts (by rfl) (by rfl) (by rfl) (by rfl) ?_))
 refine retL (us:=[_,_]) rfl ⟨rv_cellN rfl α'141 ζ'141 Tk 0 rfl (us:=[_,_]) rfl rfl,rv_tmp rfl,trivial⟩ (()) (by rw [if_pos hyes,if_pos hyes];rfl) (by trivial) ?_
 exact Tf
theorem rcopy_spec (pa:Option Addr) (pc b:Nat) (x:CS) (hx:CInv x):Spec Tryz.prog 89 [.pointer (some ⟨b,0,none⟩)] [rk pa pc b x] (fun (r:Nat)=>.pointer (some ⟨r,0,none⟩)) (fun r=>True) (fun r=>[rk pa pc b x,rk pa pc r x]):=by
 refine kQ (n:=95) Tryz.func89 rfl rfl rfl ?_
 intro Γ w0
 simp only [argE,Ca,Na,Zd,Nat.reduceAdd]
 have htl:=hx.tl
 have hol:=hx.ol
 have hbl:=hx.bl
 have h4:=hx.sh.pl
 have h5:=hx.sh.th
 have h6:=hx.sh.lk
 refine qL (qC (.q 0 (.done)) Kr ?_)
 refine qS rfl rfl rfl rfl (qR (qQ (qL (qL (qC (.q 0 (.q 1 (.done))) Kr ?_)))))
 refine qK rfl rfl rfl rfl (cG rfl rfl rfl rfl υ'107 ?_)
 refine kB 8 rfl (v':=.bool false) rfl ?_
 refine qR (qQ (kZ rfl ?_))
 refine qF (qQ (qL (cS (A:=rk pa pc b x) Tk ?_)))
 refine rk_open fun ta tc oa oc ba bc=>?_
 refine kL rfl (.q 0 (.q 1 (.q 2 (.q 3 (.q 4 (.q 5 (.q 6 (.q 7 (.q 8 ((.l 9 [] (.q 10 (.done))))))))))))) Kr ?_
 refine qK rfl rfl rfl rfl (qX rfl rfl rfl rfl (qG (k:=0) rfl rfl rfl rfl υ'157 rfl ζ'24 rfl ?_))
 refine kG rfl rfl rfl rfl α'24 ζ'24 Tk 0 (us:=[_,_,_,_,_]) Az rfl rfl ?_
 refine qK rfl rfl rfl rfl (qX rfl rfl rfl rfl (qG (k:=8) rfl rfl rfl rfl υ'157 rfl ζ'3 rfl ?_))
 refine qP (j:=8) rfl rfl rfl rfl α'3 Tk Az (by rfl) ?_
 refine cC rfl rfl rfl rfl (vs:=[_,_,_,_,_,_,_,_,_]) (kV υ'157 Tryz.zeroValue157 (ps:=[(0,5),(5,1),(6,1),(7,1),(8,1)]) ⟨rfl,ζ'24,rfl,ζ'155,rfl,ζ'22,rfl,ζ'132,rfl,ζ'3,trivial⟩ rfl) ?_
 refine sP rfl rfl rfl rfl (us:=[_,_,_,_,_,_,_,_,_]) rfl ?_
 intro b18
 refine qV (qS rfl rfl rfl rfl (qR (qW [0,3] (e':=[(0,_),(3,_)]) rfl ?_)))
 refine qQ (qL (qL (qC (.q 0 (.done)) Kr ?_)))
 refine qS rfl rfl rfl rfl (qR (qQ (kC (cQ (fun _ h=>sR (sz:=3) (enc:=enc3) h) ?_))))
 refine cH (α:=Nat × Option Addr × Nat) (fun (x_:Nat × Option Addr × Nat)=>match x_ with | (i,ai,ci)=>i≤x.T.length∧True) (fun (x_:Nat × Option Addr × Nat)=>match x_ with | (i,ai,ci)=>[(4,.int .i64 ((i:Nat):Int))]) (fun (x_:Nat × Option Addr × Nat)=>match x_ with | (i,ai,ci)=>[cells b18 0 [.int .i64 x.th,.int .i64 x.va,.int .i64 x.vo,.int .i64 x.lk,.slice pa x.pa.length pc,.slice ai i ci,.slice none 0 0,.slice none 0 0,.int .i64 x.n],own 3 enc3 ai ci (x.T.take i)]) (fun (x_:Nat × Option Addr × Nat)=>match x_ with | (i,ai,ci)=>x.T.length - i) [0,3] (er:=[(0,_),(3,_)]) rfl (0,none,0) ?_ (by exact ⟨rfl,trivial⟩) (by (try dsimp only);(try simp only [Ad,Zd]);(repeat ((with_reducible apply Z2);focus (first | (with_reducible (repeat (first | exact Z0 | apply Z1));done) | (repeat (first | exact Z0 | apply Z1)))));exact Z3) ?_
 · exact ⟨Nat.zero_le _,trivial⟩
 rintro ⟨i,ai,ci⟩ ⟨hle_i,hz_i⟩
 try simp only [Ca,Na]
 refine qL (qL (qC (.q 0 (.q 1 (.q 2 (.q 3 (.q 4 (.q 5 (.q 6 (.done)))))))) Kr ?_))
 refine qK rfl rfl rfl rfl (qK rfl rfl rfl rfl (qX rfl rfl rfl rfl (qG (k:=5) rfl rfl rfl rfl υ'157 rfl ζ'155 rfl ?_)))
 refine qP (j:=5) rfl rfl rfl rfl α'155 Tk Az (by rfl) ?_
 refine cJ rfl rfl rfl rfl υ'155 ?_
 refine qB rfl rfl rfl rfl rfl (cB _ _ _ _) ?_
 refine qR (qW [0,3,4,25] (e':=[(0,_),(3,_),(4,_),(25,_)]) rfl ?_)
 refine qQ ?_
 refine qD rfl (fun hlt=>?_) (fun hlt=>?_)
 ·
  refine qF (qQ (qL (kC (kL rfl (.q 0 (.q 1 (.q 2 (.q 3 (.q 4 (.q 5 (.q 6 (.q 7 (.q 8 (.q 9 (.q 10 (.q 11 ((.l 12 [4] ((.l 13 [] (.q 14 (.q 15 ((.l 16 [] (.done))))))))))))))))))))) Kr ?_))))
  refine qK rfl rfl rfl rfl (qK rfl rfl rfl rfl (qX rfl rfl rfl rfl (qG (k:=5) rfl rfl rfl rfl υ'157 rfl ζ'155 rfl ?_)))
  refine qP (j:=5) rfl rfl rfl rfl α'155 Tk Az (by rfl) ?_
  refine qK rfl rfl rfl rfl (qX rfl rfl rfl rfl (qG (k:=5) rfl rfl rfl rfl υ'157 rfl ζ'155 rfl ?_))
  refine qP (j:=5) rfl rfl rfl rfl α'155 Tk Az (by rfl) ?_
  refine qK rfl rfl rfl rfl ?_
  obtain ⟨zi,hzi⟩:=cR (l:=x.T) (i:=i) (by first | omega | (simp;done) | (simp;omega))
  refine kF (sz:=2) (k:=i) (enc:=enc3) (xs:=x.T) rfl rfl rfl rfl rfl υ'155 ζ'166 hzi (by first | rfl | omega) Om Tk ?_
  intro ib38 io38 ha38 hl38 hc38
  refine q_loadN_O (j:=0) (k':=i) (us:=[_,_,_]) (enc:=enc3) (off:=io38) rfl rfl rfl rfl α'166 ζ'166 ha38 enc3_len hzi Tk (by first | rfl | exact (Ad _).symm | omega) (by rfl) rfl ?_
  refine cL rfl rfl rfl rfl (sQ (us:=[_,_,_]) υ'155 ζ'166 rfl ω'166 rfl rfl rfl) ?_
  intro b40
  refine qH (q:=5) rfl rfl rfl α'155 Tk Az (by rfl) ?_
  refine qV (sG (sz:=3) (enc:=enc3) (xs:=(x.T.take i)) rfl rfl rfl rfl rfl υ'155 Tryz.typeInfo166 rfl rfl rfl (by decide) Tk Tk (by first | rfl | omega | (simp;done) | (simp;omega)) (ys:=[zi]) (sX sS) (by rfl) (by first | rfl | omega) (enc3_len) (enc3_one) Om (by show _*24≤_;omega) ?_)
  intro ao41 cp41
  refine qV (qX rfl rfl rfl rfl (qG (k:=5) rfl rfl rfl rfl υ'157 rfl ζ'155 rfl ?_))
  refine kH (j:=5) rfl rfl rfl rfl ζ'155 (us:=[_]) rfl rfl rfl Tk Az (by first | decide | (simp;done) | omega) ?_
  simp only [setL,List.set]
  refine qV (qR (qW [0,3,4] (e':=[(0,_),(3,_),(4,_)]) rfl ?_))
  refine kX (qQ (qC (.q 0 (.q 1 (.q 2 (.done)))) Kr ?_))
  refine qK rfl rfl rfl rfl (qB rfl rfl rfl rfl rfl (cV _ (by exact kP Om Om)) ?_)
  refine qS rfl rfl rfl rfl (qR (qQ ?_))
  rw [← take_next hzi]
  refine kJ (x:=(i,ai,ci)) ((i+1,ao41,cp41)) ?_ ?_ ?_ ?_
  · try dsimp only
    exact ⟨by omega,trivial⟩
  · show x.T.length - (i+1) < x.T.length - i;omega
  · exact ⟨rfl,rfl,rfl,trivial⟩
  · (try simp only [Ca,Na]);exact Tf
 refine cW (qY (qY (kK (qQ (qL (qL (qC (.q 0 (.done)) Kr ?_)))))))
 refine qS rfl rfl rfl rfl (qR (qQ (kC (cQ (fun _ h=>sR (sz:=1) (enc:=encZ) h) ?_))))
 refine cH (α:=Nat × Option Addr × Nat) (fun (x_:Nat × Option Addr × Nat)=>match x_ with | (j,aj,cj)=>j≤x.O.length∧True) (fun (x_:Nat × Option Addr × Nat)=>match x_ with | (j,aj,cj)=>[(5,.int .i64 ((j:Nat):Int))]) (fun (x_:Nat × Option Addr × Nat)=>match x_ with | (j,aj,cj)=>[cells b18 0 [.int .i64 x.th,.int .i64 x.va,.int .i64 x.vo,.int .i64 x.lk,.slice pa x.pa.length pc,.slice ai i ci,.slice aj j cj,.slice none 0 0,.int .i64 x.n],own 3 enc3 ai ci (x.T.take i),own 1 encZ aj cj (x.O.take j)]) (fun (x_:Nat × Option Addr × Nat)=>match x_ with | (j,aj,cj)=>x.O.length - j) [0,3] (er:=[(0,_),(3,_)]) rfl (0,none,0) ?_ (by exact ⟨rfl,trivial⟩) (by (try dsimp only);(try simp only [Ad,Zd]);(repeat ((with_reducible apply Z2);focus (first | (with_reducible (repeat (first | exact Z0 | apply Z1));done) | (repeat (first | exact Z0 | apply Z1)))));exact Z3) ?_
 · exact ⟨Nat.zero_le _,trivial⟩
 rintro ⟨j,aj,cj⟩ ⟨hle_j,hz_j⟩
 try simp only [Ca,Na]
 refine qL (qL (qC (.q 0 (.q 1 (.q 2 (.q 3 (.q 4 (.q 5 (.q 6 (.done)))))))) Kr ?_))
 refine qK rfl rfl rfl rfl (qK rfl rfl rfl rfl (qX rfl rfl rfl rfl (qG (k:=6) rfl rfl rfl rfl υ'157 rfl ζ'22 rfl ?_)))
 refine qP (j:=6) rfl rfl rfl rfl α'22 Tk Az (by rfl) ?_
 refine cJ rfl rfl rfl rfl υ'22 ?_
 refine qB rfl rfl rfl rfl rfl (cB _ _ _ _) ?_
 refine qR (qW [0,3,5,50] (e':=[(0,_),(3,_),(5,_),(50,_)]) rfl ?_)
 refine qQ ?_
 refine qD rfl (fun hlt=>?_) (fun hlt=>?_)
 ·
  refine qF (qQ (qL (kC (kL rfl (.q 0 (.q 1 (.q 2 (.q 3 (.q 4 (.q 5 (.q 6 (.q 7 (.q 8 (.q 9 (.q 10 (.q 11 ((.l 12 [4] ((.l 13 [] (.q 14 (.q 15 ((.l 16 [] (.done))))))))))))))))))))) Kr ?_))))
  refine qK rfl rfl rfl rfl (qK rfl rfl rfl rfl (qX rfl rfl rfl rfl (qG (k:=6) rfl rfl rfl rfl υ'157 rfl ζ'22 rfl ?_)))
  refine qP (j:=6) rfl rfl rfl rfl α'22 Tk Az (by rfl) ?_
  refine qK rfl rfl rfl rfl (qX rfl rfl rfl rfl (qG (k:=6) rfl rfl rfl rfl υ'157 rfl ζ'22 rfl ?_))
  refine qP (j:=6) rfl rfl rfl rfl α'22 Tk Az (by rfl) ?_
  refine qK rfl rfl rfl rfl ?_
  obtain ⟨zj,hzj⟩:=cR (l:=x.O) (i:=j) (by first | omega | (simp;done) | (simp;omega))
  refine kF (sz:=0) (k:=j) (enc:=encZ) (xs:=x.O) rfl rfl rfl rfl rfl υ'22 ζ'3 hzj (by first | rfl | omega) Om Tk ?_
  intro ib63 io63 ha63 hl63 hc63
  refine kS (v:=(.int .i64 zj)) (j:=0) (k':=j) (enc:=encZ) (off:=io63) rfl rfl rfl rfl α'3 ha63 encZ_len hzj Tk (by first | rfl | exact (Ad _).symm | omega) (by rfl) ?_
  refine cL rfl rfl rfl rfl (sQ (us:=[_]) υ'22 ζ'3 rfl ω'3 rfl rfl rfl) ?_
  intro b65
  refine qH (q:=6) rfl rfl rfl α'22 Tk Az (by rfl) ?_
  refine qV (sG (sz:=1) (enc:=encZ) (xs:=(x.O.take j)) rfl rfl rfl rfl rfl υ'22 τ'3 rfl rfl rfl (by decide) Tk Tk (by first | rfl | omega | (simp;done) | (simp;omega)) (ys:=[zj]) (sX sS) (by rfl) (by first | rfl | omega) (encZ_len) (encZ_one) Om (by show _*8≤_;omega) ?_)
  intro ao66 cp66
  refine qV (qX rfl rfl rfl rfl (qG (k:=6) rfl rfl rfl rfl υ'157 rfl ζ'22 rfl ?_))
  refine kH (j:=6) rfl rfl rfl rfl ζ'22 (us:=[_]) rfl rfl rfl Tk Az (by first | decide | (simp;done) | omega) ?_
  simp only [setL,List.set]
  refine qV (qR (qW [0,3,5] (e':=[(0,_),(3,_),(5,_)]) rfl ?_))
  refine kX (qQ (qC (.q 0 (.q 1 (.q 2 (.done)))) Kr ?_))
  refine qK rfl rfl rfl rfl (qB rfl rfl rfl rfl rfl (cV _ (by exact kP Om Om)) ?_)
  refine qS rfl rfl rfl rfl (qR (qQ ?_))
  rw [← take_next hzj]
  refine kJ (x:=(j,aj,cj)) ((j+1,ao66,cp66)) ?_ ?_ ?_ ?_
  · try dsimp only
    exact ⟨by omega,trivial⟩
  · show x.O.length - (j+1) < x.O.length - j;omega
  · exact ⟨rfl,rfl,rfl,trivial⟩
  · (try simp only [Ca,Na]);exact Tf
 refine cW (qY (qY (kK (qQ (qL (qL (qC (.q 0 (.done)) Kr ?_)))))))
 refine qS rfl rfl rfl rfl (qR (qQ (kC (cQ (fun _ h=>sR (sz:=2) (enc:=enc2) h) ?_))))
 refine cH (α:=Nat × Option Addr × Nat) (fun (x_:Nat × Option Addr × Nat)=>match x_ with | (m,am,cm)=>m≤x.B.length∧True) (fun (x_:Nat × Option Addr × Nat)=>match x_ with | (m,am,cm)=>[(6,.int .i64 ((m:Nat):Int))]) (fun (x_:Nat × Option Addr × Nat)=>match x_ with | (m,am,cm)=>[cells b18 0 [.int .i64 x.th,.int .i64 x.va,.int .i64 x.vo,.int .i64 x.lk,.slice pa x.pa.length pc,.slice ai i ci,.slice aj j cj,.slice am m cm,.int .i64 x.n],own 3 enc3 ai ci (x.T.take i),own 1 encZ aj cj (x.O.take j),own 2 enc2 am cm (x.B.take m)]) (fun (x_:Nat × Option Addr × Nat)=>match x_ with | (m,am,cm)=>x.B.length - m) [0,3] (er:=[(0,_),(3,_)]) rfl (0,none,0) ?_ (by exact ⟨rfl,trivial⟩) (by (try dsimp only);(try simp only [Ad,Zd]);(repeat ((with_reducible apply Z2);focus (first | (with_reducible (repeat (first | exact Z0 | apply Z1));done) | (repeat (first | exact Z0 | apply Z1)))));exact Z3) ?_
 · exact ⟨Nat.zero_le _,trivial⟩
 rintro ⟨m,am,cm⟩ ⟨hle_m,hz_m⟩
 try simp only [Ca,Na]
 refine qL (qL (qC (.q 0 (.q 1 (.q 2 (.q 3 (.q 4 (.q 5 (.q 6 (.done)))))))) Kr ?_))
 refine qK rfl rfl rfl rfl (qK rfl rfl rfl rfl (qX rfl rfl rfl rfl (qG (k:=7) rfl rfl rfl rfl υ'157 rfl ζ'132 rfl ?_)))
 refine qP (j:=7) rfl rfl rfl rfl α'132 Tk Az (by rfl) ?_
 refine cJ rfl rfl rfl rfl υ'132 ?_
 refine qB rfl rfl rfl rfl rfl (cB _ _ _ _) ?_
 refine qR (qW [0,3,6,75] (e':=[(0,_),(3,_),(6,_),(75,_)]) rfl ?_)
 refine qQ ?_
 refine qD rfl (fun hlt=>?_) (fun hlt=>?_)
 ·
  refine qF (qQ (qL (kC (kL rfl (.q 0 (.q 1 (.q 2 (.q 3 (.q 4 (.q 5 (.q 6 (.q 7 (.q 8 (.q 9 (.q 10 (.q 11 ((.l 12 [4] ((.l 13 [] (.q 14 (.q 15 ((.l 16 [] (.done))))))))))))))))))))) Kr ?_))))
  refine qK rfl rfl rfl rfl (qK rfl rfl rfl rfl (qX rfl rfl rfl rfl (qG (k:=7) rfl rfl rfl rfl υ'157 rfl ζ'132 rfl ?_)))
  refine qP (j:=7) rfl rfl rfl rfl α'132 Tk Az (by rfl) ?_
  refine qK rfl rfl rfl rfl (qX rfl rfl rfl rfl (qG (k:=7) rfl rfl rfl rfl υ'157 rfl ζ'132 rfl ?_))
  refine qP (j:=7) rfl rfl rfl rfl α'132 Tk Az (by rfl) ?_
  refine qK rfl rfl rfl rfl ?_
  obtain ⟨zm,hzm⟩:=cR (l:=x.B) (i:=m) (by first | omega | (simp;done) | (simp;omega))
  refine kF (sz:=1) (k:=m) (enc:=enc2) (xs:=x.B) rfl rfl rfl rfl rfl υ'132 ζ'141 hzm (by first | rfl | omega) Om Tk ?_
  intro ib88 io88 ha88 hl88 hc88
  refine q_loadN_O (j:=0) (k':=m) (us:=[_,_]) (enc:=enc2) (off:=io88) rfl rfl rfl rfl α'141 ζ'141 ha88 enc2_len hzm Tk (by first | rfl | exact (Ad _).symm | omega) (by rfl) rfl ?_
  refine cL rfl rfl rfl rfl (sQ (us:=[_,_]) υ'132 ζ'141 rfl ω'141 rfl rfl rfl) ?_
  intro b90
  refine qH (q:=7) rfl rfl rfl α'132 Tk Az (by rfl) ?_
  refine qV (sG (sz:=2) (enc:=enc2) (xs:=(x.B.take m)) rfl rfl rfl rfl rfl υ'132 τ'141 rfl rfl rfl (by decide) Tk Tk (by first | rfl | omega | (simp;done) | (simp;omega)) (ys:=[zm]) (sX sS) (by rfl) (by first | rfl | omega) (enc2_len) (enc2_one) Om (by show _*16≤_;omega) ?_)
  intro ao91 cp91
  refine qV (qX rfl rfl rfl rfl (qG (k:=7) rfl rfl rfl rfl υ'157 rfl ζ'132 rfl ?_))
  refine kH (j:=7) rfl rfl rfl rfl ζ'132 (us:=[_]) rfl rfl rfl Tk Az (by first | decide | (simp;done) | omega) ?_
  simp only [setL,List.set]
  refine qV (qR (qW [0,3,6] (e':=[(0,_),(3,_),(6,_)]) rfl ?_))
  refine kX (qQ (qC (.q 0 (.q 1 (.q 2 (.done)))) Kr ?_))
  refine qK rfl rfl rfl rfl (qB rfl rfl rfl rfl rfl (cV _ (by exact kP Om Om)) ?_)
  refine qS rfl rfl rfl rfl (qR (qQ ?_))
  rw [← take_next hzm]
  refine kJ (x:=(m,am,cm)) ((m+1,ao91,cp91)) ?_ ?_ ?_ ?_
  · try dsimp only
    exact ⟨by omega,trivial⟩
  · show x.B.length - (m+1) < x.B.length - m;omega
  · exact ⟨rfl,rfl,rfl,trivial⟩
  · (try simp only [Ca,Na]);exact Tf
 refine cW (qY (qY (kK (qQ (qL (qC (.q 0 (.q 1 (.done))) Kr ?_))))))
 refine qK rfl rfl rfl rfl (qS rfl rfl rfl rfl (qR (qW [2] (e':=[(2,_)]) rfl ?_)))
 refine qQ (qJ ?_)
 obtain rfl:i=x.T.length:=by omega
 obtain rfl:j=x.O.length:=by omega
 obtain rfl:m=x.B.length:=by omega
 rw [List.take_length,List.take_length,List.take_length]
 refine rk_fold (b:=b) x (pa:=pa) (pc:=pc) (ta:=ta) (tc:=tc) (oa:=oa) (oc:=oc) (ba:=ba) (bc:=bc) Ts (by rfl) (by rfl) (by rfl) (by rfl) ?_
 refine rk_fold (b:=b18) x (pa:=pa) (pc:=pc) (ta:=ai) (tc:=ci) (oa:=aj) (oc:=cj) (ba:=am) (bc:=cm) Ts (by rfl) (by rfl) (by rfl) (by rfl) ?_
 refine kD rfl rfl (b18) (by first | rfl | (first | rfl | (congr 1;done) | (congr 1 <;> first | rfl | omega | (simp;done) | (simp;omega)))) (by trivial) ?_
 exact Tf
end Go.Ab.Fe
set_option linter.unusedVariables false
set_option linter.unusedSimpArgs false
set_option maxRecDepth 100000
namespace Go.Ab.Fe
open Go Go.Proofs Go.Ab
abbrev nxT (x:CS) (e:T3):CS:=nxF x e.1 e.2.1 e.2.2
abbrev canT (x:CS) (e:T3):Prop:=canF x e.1 e.2.1 e.2.2
/-- Behind the first i events, those that cannot be next left out. -/
def sN (x:CS) (es:List T3) (i:Nat):CS:=(es.take i).foldl nxT x
theorem nxF_pa (x:CS) (k t o:Int):(nxF x k t o).pa=x.pa∧(nxF x k t o).th=x.th∧(nxF x k t o).va=x.va∧(nxF x k t o).vo=x.vo∧(nxF x k t o).lk=x.lk:=by
  unfold nxF nextF;split
  · repeat' split
    all_goals exact ⟨rfl,rfl,rfl,rfl,rfl⟩
  · exact ⟨rfl,rfl,rfl,rfl,rfl⟩
/-- All of the first i events can be. -/
def allC (x:CS) (es:List T3) (i:Nat):Prop:=∀ (j:Nat) (e:T3),j < i→es[j]?=some e→canT (sN x es j) e
def leastN:CS→List T3→Nat
  | _,[]=>0
  | x,e::es=>if canT x e then leastN (nxT x e) es+1 else 0
def lsR (th va vo lk:Int) (pl:List Int) (es:List T3):Int:=if OkS th va vo lk pl then ((leastN (newF th va vo lk pl) es:Nat):Int) else 0
theorem rnew_spec (th va vo lk:Int) (pl:List Int) (ao:Option Addr) (n c:Nat) (A:HProp) (hr:RdS A ao (pl.flatMap encZ)) (hn:pl.length=n) (hb:n≤4000000) (hok:OkS th va vo lk pl):Spec Tryz.prog 73 [.agg #[.int .i64 th,.int .i64 va,.int .i64 vo,.int .i64 lk,.slice ao n c]] [A] (fun (r:Nat × Option Addr × Nat)=>.tuple #[.pointer (some ⟨r.1,0,none⟩),.int .i64 0]) (fun r=>True) (fun r=>[A,own 1 encZ r.2.1 r.2.2 pl,rk r.2.1 r.2.2 r.1 (newF th va vo lk pl)]):=by
 refine kQ (n:=92) Tryz.func73 rfl rfl rfl ?_
 intro Γ w0
 simp only [argE,Ca,Na,Zd,Nat.reduceAdd]
 have h1_:=hok.th
 have h2_:=hok.lk
 have h3_:=hok.pl
 refine qL (qC ((.l 0 [] (.q 1 (.q 2 (.done))))) Kr ?_)
 refine sP rfl rfl rfl rfl (us:=[_,_,_,_,_]) rfl ?_
 intro b1
 refine qV (qS rfl rfl rfl rfl (qS rfl rfl rfl rfl (qR (qQ (qL (qC (.q 0 ((.l 1 [] (.q 2 (.done))))) Kr ?_))))))
 refine kG rfl rfl rfl rfl α'24 ζ'24 Tk 0 (us:=[_,_,_,_,_]) Az rfl rfl ?_
 have sp_1:=rshape_spec th va vo lk pl ao n c A (hr) Ln Om
 refine qM rfl rfl rfl rfl rfl rfl Tryz.call102 (sp_1) Ts ?_
 rintro ⟨⟩ -
 try simp only [Ca,Na]
 refine qV (kB 10 rfl (v':=.int .i64 0) (by rw [if_pos hok]) ?_)
 refine qS rfl rfl rfl rfl (qR (qW [1,4] (e':=[(1,_),(4,_)]) rfl ?_))
 refine qQ (qL (qL (qC (.q 0 (.q 1 (.done))) Kr ?_)))
 refine qK rfl rfl rfl rfl (qB rfl rfl rfl rfl rfl (b_neq _ _ _ _) ?_)
 refine kB 12 rfl (v':=.bool false) (by first | rfl | simp) ?_
 refine qR (qQ (kZ rfl ?_))
 refine qF (qQ (qL (qC (.q 0 (.q 1 ((.l 2 [] (.q 3 (.done)))))) Kr ?_)))
 refine kG rfl rfl rfl rfl α'24 ζ'24 Tk 0 (us:=[_,_,_,_,_]) Az rfl rfl ?_
 refine cC rfl rfl rfl rfl (vs:=[_,_,_,_,_,_,_,_,_]) (kV υ'157 Tryz.zeroValue157 (ps:=[(0,5),(5,1),(6,1),(7,1),(8,1)]) ⟨rfl,ζ'24,rfl,ζ'155,rfl,ζ'22,rfl,ζ'132,rfl,ζ'3,trivial⟩ rfl) ?_
 refine sP rfl rfl rfl rfl (us:=[_,_,_,_,_,_,_,_,_]) rfl ?_
 intro b16
 refine qV (qS rfl rfl rfl rfl (qR (qW [1,5] (e':=[(1,_),(5,_)]) rfl ?_)))
 refine qQ (qL (qC (.q 0 (.q 1 (.q 2 (.q 3 ((.l 4 [] (.done))))))) Kr ?_))
 refine qK rfl rfl rfl rfl (qX rfl rfl rfl rfl (qG (k:=0) rfl rfl rfl rfl υ'157 rfl ζ'24 rfl ?_))
 refine qG (k:=4) rfl rfl rfl rfl υ'24 rfl ζ'22 rfl ?_
 refine kH (j:=4) rfl rfl rfl rfl ζ'22 (us:=[_]) rfl rfl rfl Tk Az (by first | decide | (simp;done) | omega) ?_
 simp only [setL,List.set]
 refine qV (qR (qW [1,5] (e':=[(1,_),(5,_)]) rfl ?_))
 refine qQ (qL (qL (qC (.q 0 (.done)) Kr ?_)))
 refine qS rfl rfl rfl rfl (qR (qQ (kC (cQ (fun _ h=>sR (sz:=1) (enc:=encZ) h) ?_))))
 refine cQ (fun _ h=>sR (sz:=2) (enc:=enc2) h) ?_
 refine cH (α:=Nat × Option Addr × Nat × Option Addr × Nat) (fun (x_:Nat × Option Addr × Nat × Option Addr × Nat)=>match x_ with | (i,ai,ci,bi,di)=>i≤n∧True) (fun (x_:Nat × Option Addr × Nat × Option Addr × Nat)=>match x_ with | (i,ai,ci,bi,di)=>[(6,.int .i64 ((i:Nat):Int))]) (fun (x_:Nat × Option Addr × Nat × Option Addr × Nat)=>match x_ with | (i,ai,ci,bi,di)=>[cells b16 0 [.int .i64 th,.int .i64 va,.int .i64 vo,.int .i64 lk,.slice ai i ci,.slice none 0 0,.slice none 0 0,.slice bi i di,.int .i64 0],own 1 encZ ai ci (pl.take i),own 2 enc2 bi di (List.replicate i ((0:Int),(0:Int)))]) (fun (x_:Nat × Option Addr × Nat × Option Addr × Nat)=>match x_ with | (i,ai,ci,bi,di)=>n - i) [1,5] (er:=[(1,_),(5,_)]) rfl (0,none,0,none,0) ?_ (by exact ⟨rfl,trivial⟩) (by (try dsimp only);(try simp only [Ad,Zd]);(repeat ((with_reducible apply Z2);focus (first | (with_reducible (repeat (first | exact Z0 | apply Z1));done) | (repeat (first | exact Z0 | apply Z1)))));exact Z3) ?_
 · exact ⟨Nat.zero_le _,trivial⟩
 rintro ⟨i,ai,ci,bi,di⟩ ⟨hle_i,hz1⟩
 try simp only [Ca,Na]
 refine qL (qL (qC (.q 0 (.q 1 (.q 2 (.q 3 (.q 4 (.done)))))) Kr ?_))
 refine qK rfl rfl rfl rfl (qG (k:=4) rfl rfl rfl rfl υ'24 rfl ζ'22 rfl ?_)
 refine qP (j:=4) rfl rfl rfl rfl α'22 Tk Az (by rfl) ?_
 refine cJ rfl rfl rfl rfl υ'22 ?_
 refine qB rfl rfl rfl rfl rfl (cB _ _ _ _) ?_
 refine qR (qW [1,5,6,25] (e':=[(1,_),(5,_),(6,_),(25,_)]) rfl ?_)
 refine qQ ?_
 refine qD rfl (fun hlt1=>?_) (fun hlt1=>?_)
 ·
  refine qF (qQ (qL (kC (qL (kL rfl (.q 0 (.q 1 (.q 2 (.q 3 (.q 4 (.q 5 (.q 6 (.q 7 (.q 8 (.q 9 (.q 10 ((.l 11 [5] ((.l 12 [] (.q 13 (.q 14 (.q 15 ((.l 16 [] (.done))))))))))))))))))))) Kr ?_)))))
  refine qK rfl rfl rfl rfl (qK rfl rfl rfl rfl (qX rfl rfl rfl rfl (qG (k:=0) rfl rfl rfl rfl υ'157 rfl ζ'24 rfl ?_)))
  refine qG (k:=4) rfl rfl rfl rfl υ'24 rfl ζ'22 rfl ?_
  refine qP (j:=4) rfl rfl rfl rfl α'22 Tk Az (by rfl) ?_
  refine qG (k:=4) rfl rfl rfl rfl υ'24 rfl ζ'22 rfl ?_
  refine qP (j:=4) rfl rfl rfl rfl α'22 Tk Az (by rfl) ?_
  refine qK rfl rfl rfl rfl ?_
  obtain ⟨p,hp⟩:=cR (l:=pl) (i:=i) (by first | omega | (simp;done) | (simp;omega))
  refine q_idxR (sz:=0) (k:=i) rfl rfl rfl rfl rfl υ'22 ζ'3 (hr) hp encZ_len (by first | rfl | omega) Om ?_
  intro ib37 io37 _ hd37
  refine q_load rfl rfl rfl rfl α'3 Tk (hd37 0 (.int .i64 p) rfl) ?_
  refine cL rfl rfl rfl rfl (sQ (us:=[_]) υ'22 ζ'3 rfl ω'3 rfl rfl rfl) ?_
  intro b39
  refine qH (q:=4) rfl rfl rfl α'22 Tk Az (by rfl) ?_
  refine qV (sG (sz:=1) (enc:=encZ) (xs:=(pl.take i)) rfl rfl rfl rfl rfl υ'22 τ'3 rfl rfl rfl (by decide) Tk Tk (by first | rfl | omega | (simp;done) | (simp;omega)) (ys:=[p]) (sX sS) (by rfl) (by first | rfl | omega) (encZ_len) (encZ_one) Om (by show _*8≤_;omega) ?_)
  intro ao40 cp40
  refine qV (qX rfl rfl rfl rfl (qG (k:=0) rfl rfl rfl rfl υ'157 rfl ζ'24 rfl ?_))
  refine qG (k:=4) rfl rfl rfl rfl υ'24 rfl ζ'22 rfl ?_
  refine kH (j:=4) rfl rfl rfl rfl ζ'22 (us:=[_]) rfl rfl rfl Tk Az (by first | decide | (simp;done) | omega) ?_
  simp only [setL,List.set]
  refine qV (qR (qW [1,5,6] (e':=[(1,_),(5,_),(6,_)]) rfl ?_))
  refine qQ (qC (.q 0 (.q 1 (.q 2 (.q 3 (.q 4 (.q 5 ((.l 6 [] ((.l 7 [] (.q 8 (.q 9 ((.l 10 [] (.done))))))))))))))) Kr ?_)
  refine qK rfl rfl rfl rfl (qK rfl rfl rfl rfl (qX rfl rfl rfl rfl (qG (k:=7) rfl rfl rfl rfl υ'157 rfl ζ'132 rfl ?_)))
  refine qP (j:=7) rfl rfl rfl rfl α'132 Tk Az (by rfl) ?_
  refine cC rfl rfl rfl rfl (vs:=[_,_]) (kV υ'141 ω'141 (ps:=[(0,1),(1,1)]) ⟨rfl,ζ'3,rfl,ζ'3,trivial⟩ rfl) ?_
  refine cL rfl rfl rfl rfl (sQ (us:=[_,_]) υ'132 ζ'141 rfl ω'141 rfl rfl rfl) ?_
  intro b50
  refine qV (sG (sz:=2) (enc:=enc2) (xs:=(List.replicate i ((0:Int),(0:Int)))) rfl rfl rfl rfl rfl υ'132 τ'141 rfl rfl rfl (by decide) Tk Tk (by first | rfl | omega | (simp;done) | (simp;omega)) (ys:=[(0,0)]) (sX sS) (by rfl) (by first | rfl | omega) (enc2_len) (enc2_one) Om (by show _*16≤_;omega) ?_)
  intro ao51 cp51
  refine qV (qX rfl rfl rfl rfl (qG (k:=7) rfl rfl rfl rfl υ'157 rfl ζ'132 rfl ?_))
  refine kH (j:=7) rfl rfl rfl rfl ζ'132 (us:=[_]) rfl rfl rfl Tk Az (by first | decide | (simp;done) | omega) ?_
  simp only [setL,List.set]
  refine qV (qR (qW [1,5,6] (e':=[(1,_),(5,_),(6,_)]) rfl ?_))
  refine kX (qQ (qC (.q 0 (.q 1 (.q 2 (.done)))) Kr ?_))
  refine qK rfl rfl rfl rfl (qB rfl rfl rfl rfl rfl (cV _ (by exact kP Om Om)) ?_)
  refine qS rfl rfl rfl rfl (qR (qQ ?_))
  rw [← take_next hp,← List.replicate_succ']
  refine kJ (x:=(i,ai,ci,bi,di)) ((i+1,ao40,cp40,ao51,cp51)) ?_ ?_ ?_ ?_
  · try dsimp only
    exact ⟨by omega,trivial⟩
  · show n - (i+1) < n - i;omega
  · exact ⟨rfl,rfl,rfl,trivial⟩
  · (try simp only [Ca,Na]);exact Tf
 refine cW (qY (qY (kK (qQ (qL (qL (qC (.q 0 (.done)) Kr ?_)))))))
 refine qS rfl rfl rfl rfl (qR (qQ (kC (cQ (fun _ h=>sR (sz:=3) (enc:=enc3) h) ?_))))
 refine cH (α:=Nat × Option Addr × Nat) (fun (x_:Nat × Option Addr × Nat)=>match x_ with | (j,aj,cj)=>j≤th.toNat∧True) (fun (x_:Nat × Option Addr × Nat)=>match x_ with | (j,aj,cj)=>[(7,.int .i64 ((j:Nat):Int))]) (fun (x_:Nat × Option Addr × Nat)=>match x_ with | (j,aj,cj)=>[cells b16 0 [.int .i64 th,.int .i64 va,.int .i64 vo,.int .i64 lk,.slice ai i ci,.slice aj j cj,.slice none 0 0,.slice bi i di,.int .i64 0],own 1 encZ ai ci (pl.take i),own 3 enc3 aj cj (List.replicate j ((0:Int),(0:Int),(0:Int))),own 2 enc2 bi di (List.replicate i ((0:Int),(0:Int)))]) (fun (x_:Nat × Option Addr × Nat)=>match x_ with | (j,aj,cj)=>th.toNat - j) [1,5] (er:=[(1,_),(5,_)]) rfl (0,none,0) ?_ (by exact ⟨rfl,trivial⟩) (by (try dsimp only);(try simp only [Ad,Zd]);(repeat ((with_reducible apply Z2);focus (first | (with_reducible (repeat (first | exact Z0 | apply Z1));done) | (repeat (first | exact Z0 | apply Z1)))));exact Z3) ?_
 · exact ⟨Nat.zero_le _,trivial⟩
 rintro ⟨j,aj,cj⟩ ⟨hle_j,hz2⟩
 try simp only [Ca,Na]
 refine qL (qL (qC (.q 0 (.q 1 (.q 2 (.q 3 (.done))))) Kr ?_))
 refine qK rfl rfl rfl rfl (qG (k:=0) rfl rfl rfl rfl υ'24 rfl ζ'3 rfl ?_)
 refine qP (j:=0) rfl rfl rfl rfl α'3 Tk Az (by rfl) ?_
 refine qB rfl rfl rfl rfl rfl (cB _ _ _ _) ?_
 refine qR (qQ ?_)
 refine qD rfl (fun hlt2=>?_) (fun hlt2=>?_)
 ·
  refine qF (qQ (qL (kC (qC (.q 0 (.q 1 (.q 2 (.q 3 (.q 4 (.q 5 ((.l 6 [] ((.l 7 [] (.q 8 (.q 9 ((.l 10 [] (.done))))))))))))))) Kr ?_))))
  refine qK rfl rfl rfl rfl (qK rfl rfl rfl rfl (qX rfl rfl rfl rfl (qG (k:=5) rfl rfl rfl rfl υ'157 rfl ζ'155 rfl ?_)))
  refine qP (j:=5) rfl rfl rfl rfl α'155 Tk Az (by rfl) ?_
  refine cC rfl rfl rfl rfl (vs:=[_,_,_]) (kV υ'166 ω'166 (ps:=[(0,1),(1,1),(2,1)]) ⟨rfl,ζ'164,rfl,ζ'3,rfl,ζ'3,trivial⟩ rfl) ?_
  refine cL rfl rfl rfl rfl (sQ (us:=[_,_,_]) υ'155 ζ'166 rfl ω'166 rfl rfl rfl) ?_
  intro b66
  refine qV (sG (sz:=3) (enc:=enc3) (xs:=(List.replicate j ((0:Int),(0:Int),(0:Int)))) rfl rfl rfl rfl rfl υ'155 Tryz.typeInfo166 rfl rfl rfl (by decide) Tk Tk (by first | rfl | omega | (simp;done) | (simp;omega)) (ys:=[(0,0,0)]) (sX sS) (by rfl) (by first | rfl | omega) (enc3_len) (enc3_one) Om (by show _*24≤_;omega) ?_)
  intro ao67 cp67
  refine qV (qX rfl rfl rfl rfl (qG (k:=5) rfl rfl rfl rfl υ'157 rfl ζ'155 rfl ?_))
  refine kH (j:=5) rfl rfl rfl rfl ζ'155 (us:=[_]) rfl rfl rfl Tk Az (by first | decide | (simp;done) | omega) ?_
  simp only [setL,List.set]
  refine qV (qR (qW [1,5,7] (e':=[(1,_),(5,_),(7,_)]) rfl ?_))
  refine kX (qQ (qC (.q 0 (.q 1 (.q 2 (.done)))) Kr ?_))
  refine qK rfl rfl rfl rfl (qB rfl rfl rfl rfl rfl (cV _ (by exact kP Om Om)) ?_)
  refine qS rfl rfl rfl rfl (qR (qQ ?_))
  rw [← List.replicate_succ']
  refine kJ (x:=(j,aj,cj)) ((j+1,ao67,cp67)) ?_ ?_ ?_ ?_
  · try dsimp only
    exact ⟨by omega,trivial⟩
  · show th.toNat - (j+1) < th.toNat - j;omega
  · exact ⟨rfl,rfl,rfl,trivial⟩
  · (try simp only [Ca,Na]);exact Tf
 refine cW (qY (qY (kK (qQ (qL ?_)))))
 have hj0:j=th.toNat:=by omega
 obtain ⟨z0,hz0⟩:=cR (l:=List.replicate j ((0:Int),(0:Int),(0:Int))) (i:=0) (by simp;omega)
 obtain rfl:z0=(0,0,0):=(List.mem_replicate.1 (List.mem_of_getElem? hz0)).2
 refine qC (.q 0 (.q 1 (.q 2 (.q 3 (.q 4 (.q 5 ((.l 6 [] (.done))))))))) Kr ?_
 refine qK rfl rfl rfl rfl (qX rfl rfl rfl rfl (qG (k:=5) rfl rfl rfl rfl υ'157 rfl ζ'155 rfl ?_))
 refine qP (j:=5) rfl rfl rfl rfl α'155 Tk Az (by rfl) ?_
 refine kF (sz:=2) (k:=0) (enc:=enc3) (xs:=(List.replicate j ((0:Int),(0:Int),(0:Int)))) rfl rfl rfl rfl rfl υ'155 ζ'166 hz0 (by first | rfl | omega) Om Tk ?_
 intro ib74 io74 ha74 hl74 hc74
 refine qG (k:=0) rfl rfl rfl rfl υ'166 rfl ζ'164 rfl ?_
 refine sK (j:=0) (k:=0) (q:=(1,0,0)) (enc:=enc3) (off:=io74) rfl rfl rfl rfl ζ'164 (us:=[_]) rfl rfl rfl ha74 enc3_len hz0 Tk (by first | rfl | exact (Ad _).symm | omega) (by first | decide | exact Nat.le_of_ble_eq_true rfl) (by rfl) ?_
 refine qV (qR (qW [1,5] (e':=[(1,_),(5,_)]) rfl ?_))
 refine qQ (qL (qL (qC (.q 0 (.done)) Kr ?_)))
 refine qS rfl rfl rfl rfl (qR (qQ (kC (cQ (fun _ h=>sR (sz:=1) (enc:=encZ) h) ?_))))
 refine cH (α:=Nat × Option Addr × Nat) (fun (x_:Nat × Option Addr × Nat)=>match x_ with | (m,am,cm)=>m≤lk.toNat∧True) (fun (x_:Nat × Option Addr × Nat)=>match x_ with | (m,am,cm)=>[(8,.int .i64 ((m:Nat):Int))]) (fun (x_:Nat × Option Addr × Nat)=>match x_ with | (m,am,cm)=>[cells b16 0 [.int .i64 th,.int .i64 va,.int .i64 vo,.int .i64 lk,.slice ai i ci,.slice aj j cj,.slice am m cm,.slice bi i di,.int .i64 0],own 1 encZ ai ci (pl.take i),own 3 enc3 aj cj ((List.replicate j ((0:Int),(0:Int),(0:Int))).set 0 (1,0,0)),own 1 encZ am cm (List.replicate m (-1:Int)),own 2 enc2 bi di (List.replicate i ((0:Int),(0:Int)))]) (fun (x_:Nat × Option Addr × Nat)=>match x_ with | (m,am,cm)=>lk.toNat - m) [1,5] (er:=[(1,_),(5,_)]) rfl (0,none,0) ?_ (by exact ⟨rfl,trivial⟩) (by (try dsimp only);(try simp only [Ad,Zd]);(repeat ((with_reducible apply Z2);focus (first | (with_reducible (repeat (first | exact Z0 | apply Z1));done) | (repeat (first | exact Z0 | apply Z1)))));exact Z3) ?_
 · exact ⟨Nat.zero_le _,trivial⟩
 rintro ⟨m,am,cm⟩ ⟨hle_m,hz3⟩
 try simp only [Ca,Na]
 refine qL (qL (qC (.q 0 (.q 1 (.q 2 (.q 3 (.done))))) Kr ?_))
 refine qK rfl rfl rfl rfl (qG (k:=3) rfl rfl rfl rfl υ'24 rfl ζ'3 rfl ?_)
 refine qP (j:=3) rfl rfl rfl rfl α'3 Tk Az (by rfl) ?_
 refine qB rfl rfl rfl rfl rfl (cB _ _ _ _) ?_
 refine qR (qQ ?_)
 refine qD rfl (fun hlt3=>?_) (fun hlt3=>?_)
 ·
  refine qF (qQ (qL (kC (qC (.q 0 (.q 1 (.q 2 (.q 3 (.q 4 ((.l 5 [] ((.l 6 [] (.q 7 (.q 8 ((.l 9 [] (.done)))))))))))))) Kr ?_))))
  refine qK rfl rfl rfl rfl (qK rfl rfl rfl rfl (qX rfl rfl rfl rfl (qG (k:=6) rfl rfl rfl rfl υ'157 rfl ζ'22 rfl ?_)))
  refine qP (j:=6) rfl rfl rfl rfl α'22 Tk Az (by rfl) ?_
  refine cL rfl rfl rfl rfl (sQ (us:=[_]) υ'22 ζ'3 rfl ω'3 rfl rfl rfl) ?_
  intro b87
  refine qV (sG (sz:=1) (enc:=encZ) (xs:=(List.replicate m (-1:Int))) rfl rfl rfl rfl rfl υ'22 τ'3 rfl rfl rfl (by decide) Tk Tk (by first | rfl | omega | (simp;done) | (simp;omega)) (ys:=[(-1)]) (sX sS) (by rfl) (by first | rfl | omega) (encZ_len) (encZ_one) Om (by show _*8≤_;omega) ?_)
  intro ao88 cp88
  refine qV (qX rfl rfl rfl rfl (qG (k:=6) rfl rfl rfl rfl υ'157 rfl ζ'22 rfl ?_))
  refine kH (j:=6) rfl rfl rfl rfl ζ'22 (us:=[_]) rfl rfl rfl Tk Az (by first | decide | (simp;done) | omega) ?_
  simp only [setL,List.set]
  refine qV (qR (qW [1,5,8] (e':=[(1,_),(5,_),(8,_)]) rfl ?_))
  refine kX (qQ (qC (.q 0 (.q 1 (.q 2 (.done)))) Kr ?_))
  refine qK rfl rfl rfl rfl (qB rfl rfl rfl rfl rfl (cV _ (by exact kP Om Om)) ?_)
  refine qS rfl rfl rfl rfl (qR (qQ ?_))
  rw [← List.replicate_succ']
  refine kJ (x:=(m,am,cm)) ((m+1,ao88,cp88)) ?_ ?_ ?_ ?_
  · try dsimp only
    exact ⟨by omega,trivial⟩
  · show lk.toNat - (m+1) < lk.toNat - m;omega
  · exact ⟨rfl,rfl,rfl,trivial⟩
  · (try simp only [Ca,Na]);exact Tf
 refine cW (qY (qY (kK (qQ (qL (qC (.q 0 (.q 1 (.q 2 (.done)))) Kr ?_))))))
 refine qK rfl rfl rfl rfl (qS rfl rfl rfl rfl (qS rfl rfl rfl rfl (qR (qW [2,3] (e':=[(2,_),(3,_)]) rfl ?_))))
 refine qQ (qJ ?_)
 obtain rfl:i=n:=by omega
 obtain rfl:j=th.toNat:=hj0
 obtain rfl:m=lk.toNat:=by omega
 subst hn
 rw [List.take_length]
 refine rk_fold (b:=b16) (newF th va vo lk pl) (pa:=ai) (pc:=ci) (ta:=aj) (tc:=cj) (oa:=am) (oc:=cm) (ba:=bi) (bc:=di) Ts (by rfl) (by simp [newF]) (by simp [newF]) (by simp [newF]) ?_
 refine ret2 rfl rfl rfl ((b16,ai,ci)) (by first | rfl | (first | rfl | (congr 1;done) | (congr 1 <;> first | rfl | omega | (simp;done) | (simp;omega)))) (by trivial) ?_
 exact Tf
theorem rnewbad_spec (th va vo lk:Int) (pl:List Int) (ao:Option Addr) (n c:Nat) (A:HProp) (hr:RdS A ao (pl.flatMap encZ)) (hn:pl.length=n) (hb:n≤4000000) (hok:¬ OkS th va vo lk pl):Spec Tryz.prog 73 [.agg #[.int .i64 th,.int .i64 va,.int .i64 vo,.int .i64 lk,.slice ao n c]] [A] (fun (_:Unit)=>.tuple #[.pointer none,.int .i64 5]) (fun _=>True) (fun _=>[A]):=by
 refine kQ (n:=92) Tryz.func73 rfl rfl rfl ?_
 intro Γ w0
 simp only [argE,Ca,Na,Zd,Nat.reduceAdd]
 refine qL (qC ((.l 0 [] (.q 1 (.q 2 (.done))))) Kr ?_)
 refine sP rfl rfl rfl rfl (us:=[_,_,_,_,_]) rfl ?_
 intro b1
 refine qV (qS rfl rfl rfl rfl (qS rfl rfl rfl rfl (qR (qQ (qL (qC (.q 0 ((.l 1 [] (.q 2 (.done))))) Kr ?_))))))
 refine kG rfl rfl rfl rfl α'24 ζ'24 Tk 0 (us:=[_,_,_,_,_]) Az rfl rfl ?_
 have sp_1:=rshape_spec th va vo lk pl ao n c A (hr) Ln Om
 refine qM rfl rfl rfl rfl rfl rfl Tryz.call102 (sp_1) Ts ?_
 rintro ⟨⟩ -
 try simp only [Ca,Na]
 refine qV (kB 10 rfl (v':=.int .i64 5) (by rw [if_neg hok]) ?_)
 refine qS rfl rfl rfl rfl (qR (qW [1,4] (e':=[(1,_),(4,_)]) rfl ?_))
 refine qQ (qL (qL (qC (.q 0 (.q 1 (.done))) Kr ?_)))
 refine qK rfl rfl rfl rfl (qB rfl rfl rfl rfl rfl (b_neq _ _ _ _) ?_)
 refine kB 12 rfl (v':=.bool true) (by first | rfl | simp) ?_
 refine qR (qQ (cK rfl ?_))
 refine qL (qC (.q 0 (.q 1 (.q 2 (.done)))) Kr ?_)
 refine qK rfl rfl rfl rfl (qS rfl rfl rfl rfl (qS rfl rfl rfl rfl (qR (qW [2,3] (e':=[(2,_),(3,_)]) rfl ?_))))
 refine qQ (qJ (qN (ret2 rfl rfl rfl (()) (by first | rfl | (first | rfl | (congr 1;done) | (congr 1 <;> first | rfl | omega | (simp;done) | (simp;omega)))) (by trivial) ?_)))
 exact Tf
end Go.Ab.Fe
