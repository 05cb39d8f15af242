/- What the law Plays rests on, part 7 of 8. -/
import Derived.Test.YtjibehgfiljbgaaPlaysF
set_option linter.unusedVariables false
set_option linter.unusedSimpArgs false
set_option maxRecDepth 100000
namespace Go.Ab.Fr
open Go Go.Proofs Go.Ab Go.Ab.Fe Go.Ab.Vc Go.Ab.Dj Go.Ab.Fa
theorem fe_ck {x:FS} {k t o:Int} (hv:vcanF x.v k t o):(feF x k t o).v.ck=nxF x.v.ck k t o:=by
  rw [feF,if_pos hv];exact vn_ck
theorem rread_spec (b n m Vc Xc t v:Nat) (c0 c2 c3 c4:Value) (cost j:Int) (Va Xa:Option Addr) (V M:List H) (X:List RVr) (h:H) (q:RVr) (w:V4F) (hn:V.length=n) (hm:X.length=m) (hh:V[t]?=some h) (hq:X[v]?=some q) (ho:OkV h.2.2) (hP:InP M h) (hrv:RelV w q) (hov:OkV q.2.2.2.2.2.1.2.2) (hPq:InP M q.2.2.2.2.2.1) (ht:t < 65535) (hc:1≤h.2.2.getD t 0) (hcost:0≤cost∧cost≤1000000000000000):Spec Try.prog 39 [.pointer (some ⟨b,0,none⟩),.int .i64 ((t:Nat):Int),.int .i64 ((v:Nat):Int),.int .i64 j] [cells b 0 [c0,.slice Va n Vc,c2,c3,c4,.slice Xa m Xc,.int .i64 cost],own 1 encH Va Vc V,own 7 encX Xa Xc X,bigS (owA 1 encU) M] (fun (r:RVr × List H)=>.tuple #[]) (fun r=>RelV (rdV t (tr h.2.2) j w).1 r.1∧OkV r.1.2.2.2.2.2.1.2.2∧InP (M++r.2) r.1.2.2.2.2.2.1) (fun r=>[cells b 0 [c0,.slice Va n Vc,c2,c3,c4,.slice Xa m Xc,.int .i64 (cost+(rdV t (tr h.2.2) j w).2)],own 1 encH Va Vc V,own 7 encX Xa Xc (X.set v r.1),bigS (owA 1 encU) (M++r.2)]):=by
  obtain ⟨wt,rt,wc,rc,sh,qh,fl⟩:=q
  cases sh with
  | true=>exact rread_sh b n m Vc Xc t v c0 c2 c3 c4 cost j Va Xa V M X h qh wt rt wc rc fl w hn hm hh hq ho hP hrv hov hPq ht hc hcost
  | false=>exact rread_un b n m Vc Xc t v c0 c2 c3 c4 cost j Va Xa V M X h qh wt rt wc rc fl w hn hm hh hq ho hP hrv hov hPq ht hc hcost
theorem rwrite_spec (b n m Vc Xc t v:Nat) (c0 c2 c3 c4:Value) (cost j:Int) (Va Xa:Option Addr) (V M:List H) (X:List RVr) (h:H) (q:RVr) (w:V4F) (hn:V.length=n) (hm:X.length=m) (hh:V[t]?=some h) (hq:X[v]?=some q) (ho:OkV h.2.2) (hP:InP M h) (hrv:RelV w q) (hov:OkV q.2.2.2.2.2.1.2.2) (hPq:InP M q.2.2.2.2.2.1) (ht:t < 65535) (hc:1≤h.2.2.getD t 0) (hcost:0≤cost∧cost≤1000000000000000):Spec Try.prog 40 [.pointer (some ⟨b,0,none⟩),.int .i64 ((t:Nat):Int),.int .i64 ((v:Nat):Int),.int .i64 j] [cells b 0 [c0,.slice Va n Vc,c2,c3,c4,.slice Xa m Xc,.int .i64 cost],own 1 encH Va Vc V,own 7 encX Xa Xc X,bigS (owA 1 encU) M] (fun (r:RVr × List H)=>.tuple #[]) (fun r=>RelV (wrV t (tr h.2.2) j w).1 r.1∧OkV r.1.2.2.2.2.2.1.2.2∧InP (M++r.2) r.1.2.2.2.2.2.1) (fun r=>[cells b 0 [c0,.slice Va n Vc,c2,c3,c4,.slice Xa m Xc,.int .i64 (cost+(wrV t (tr h.2.2) j w).2)],own 1 encH Va Vc V,own 7 encX Xa Xc (X.set v r.1),bigS (owA 1 encU) (M++r.2)]):=by
  obtain ⟨wt,rt,wc,rc,sh,qh,fl⟩:=q
  cases sh with
  | true=>exact rwrite_sh b n m Vc Xc t v c0 c2 c3 c4 cost j Va Xa V M X h qh wt rt wc rc fl w hn hm hh hq ho hP hrv hov hPq ht hc hcost
  | false=>exact rwrite_un b n m Vc Xc t v c0 c2 c3 c4 cost j Va Xa V M X h qh wt rt wc rc fl w hn hm hh hq ho hP hrv hov hPq ht hc hcost
theorem revent_no (pa:Option Addr) (pc b:Nat) (M:List H) (x:FS) (hx:FInv x) (hn:x.v.ck.n≤4000000) (pl:List Int) (hpl:x.v.ck.pa=pl) (k t o:Int) (hc:¬ canF x.v.ck k t o):Spec Try.prog 13 [.pointer (some ⟨b,0,none⟩),.agg #[.int .i64 k,.int .i64 t,.int .i64 o]] [rfR pa pc b M x,own 1 encZ pa pc pl,bigS (owA 1 encU) M] (fun (M':List H)=>.int .i64 6) (fun M'=>∀ q_∈M,q_∈M') (fun M'=>[rfR pa pc b M' x,own 1 encZ pa pc pl,bigS (owA 1 encU) M']):=by
 refine kP (n:=291) Try.func13 rfl rfl rfl ?_
 intro Γ w0
 simp only [argE,List.cons_append,List.nil_append,Nat.zero_add,Nat.reduceAdd]
 refine qG (qC ((.l 0 [] (.q 1 (.done)))) Kr ?_)
 refine sX rfl rfl rfl rfl (us:=[_,_,_]) rfl ?_
 intro b3
 refine qV (qR rfl rfl rfl rfl (qS (qQ (qG (qG ?_)))))
 have hcc:=hx.c0
 have hlen:=hx.len
 have hn0:=hx.v.ck.n0
 have hrl:=hx.v.ck.sh
 refine cK (A:=rfR pa pc b M x) Tk ?_
 refine rf_open fun cb Va Vc La Lc Oa Oc Ra Rc Xa Xc r hR hP=>?_
 refine qC (.q 0 (.q 1 (.done))) Kr ?_
 refine qK rfl rfl rfl rfl (cY rfl rfl rfl rfl υ'31 ?_)
 refine kH 14 rfl (v':=.bool false) rfl ?_
 refine qS (qQ (kB rfl ?_))
 refine qF (qQ (qG (qG (kX rfl (.q 0 (.q 1 (.q 2 (.q 3 (.q 4 ((.l 5 [] (.q 6 (.q 7 (.q 8 (.q 9 ((.l 10 [] (.q 11 (.q 12 (.q 13 (.q 14 (.q 15 (.q 16 (.q 17 (.q 18 (.q 19 (.q 20 (.q 21 ((.l 22 [] (.q 23 (.q 24 (.q 25 (.done)))))))))))))))))))))))))))))) Kr ?_))))
 refine qK rfl rfl rfl rfl (qX rfl rfl rfl rfl (qL (k:=0) rfl rfl rfl rfl υ'97 rfl ζ'91 rfl ?_))
 refine qP (j:=0) rfl rfl rfl rfl α'91 Tk Az (by rfl) ?_
 refine kN rfl rfl rfl rfl α'36 ζ'36 Tk 0 (us:=[_,_,_]) Az rfl rfl ?_
 have sp_1:=Fe.rcan_spec pa pc cb x.v.ck hx.v.ck k t o
 refine qM rfl rfl rfl rfl rfl rfl κ'33 (sp_1) Ts ?_
 rintro ⟨⟩ -
 try simp only [List.cons_append,List.nil_append]
 refine qV (rL rfl rfl rfl rfl ?_)
 refine qK rfl rfl rfl rfl ?_
 refine s_bool_np 22 rfl (fun hg=>?_) (fun hg=>by exfalso;exact hc hg)
 refine qY rfl rfl rfl rfl (qY rfl rfl rfl rfl (sZ rfl rfl rfl rfl ?_))
 refine qY rfl rfl rfl rfl (qY rfl rfl rfl rfl (qY rfl rfl rfl rfl (qY rfl rfl rfl rfl (qY rfl rfl rfl rfl (qY rfl rfl rfl rfl (qY rfl rfl rfl rfl (qY rfl rfl rfl rfl (qY rfl rfl rfl rfl ?_))))))))
 refine qY rfl rfl rfl rfl (qY rfl rfl rfl rfl (sZ rfl rfl rfl rfl ?_))
 refine qY rfl rfl rfl rfl (qY rfl rfl rfl rfl (kZ rfl rfl rfl rfl rfl (qS (qW [0,3,40] (e':=[(0,_),(3,_),(40,_)]) rfl ?_))))
 refine qQ (cN rfl ?_)
 refine qG (qC (.q 0 (.done)) Kr ?_)
 refine qR rfl rfl rfl rfl (qS (qQ (qJ (qD (rf_fold (b:=b) (M:=M) x ⟨r.V,r.L,r.O,r.R,r.X⟩ (pa:=pa) (pc:=pc) (cb:=cb) (Va:=Va) (Vc:=Vc) (La:=La) (Lc:=Lc) (Oa:=Oa) (Oc:=Oc) (Ra:=Ra) (Rc:=Rc) (Xa:=Xa) (Xc:=Xc) Ts rfl (by first | rfl | simp) (by first | rfl | simp) (by first | rfl | simp) (by first | rfl | simp) (by first | rfl | simp) rfl rfl hR hP ?_)))))
 refine cR rfl rfl (M) (by first | rfl | (first | rfl | (congr 1;done) | (congr 1 <;> first | rfl | omega | (simp;done) | (simp;omega)))) (by exact fun _ h_=>h_) ?_
 exact Tf
theorem revent_max (pa:Option Addr) (pc b:Nat) (M:List H) (x:FS) (hx:FInv x) (hn:x.v.ck.n≤4000000) (pl:List Int) (hpl:x.v.ck.pa=pl) (k:Int) (t o:Nat) (hc:canF x.v.ck k ((t:Nat):Int) ((o:Nat):Int)) (hv:¬ vcanF x.v k ((t:Nat):Int) ((o:Nat):Int)):Spec Try.prog 13 [.pointer (some ⟨b,0,none⟩),.agg #[.int .i64 k,.int .i64 ((t:Nat):Int),.int .i64 ((o:Nat):Int)]] [rfR pa pc b M x,own 1 encZ pa pc pl,bigS (owA 1 encU) M] (fun (M':List H)=>.int .i64 6) (fun M'=>∀ q_∈M,q_∈M') (fun M'=>[rfR pa pc b M' x,own 1 encZ pa pc pl,bigS (owA 1 encU) M']):=by
 refine kP (n:=291) Try.func13 rfl rfl rfl ?_
 intro Γ w0
 simp only [argE,List.cons_append,List.nil_append,Nat.zero_add,Nat.reduceAdd]
 refine qG (qC ((.l 0 [] (.q 1 (.done)))) Kr ?_)
 refine sX rfl rfl rfl rfl (us:=[_,_,_]) rfl ?_
 intro b3
 refine qV (qR rfl rfl rfl rfl (qS (qQ (qG (qG ?_)))))
 have hcc:=hx.c0
 have hlen:=hx.len
 have hn0:=hx.v.ck.n0
 have hrl:=hx.v.ck.sh
 obtain ⟨l,hth⟩:=th_some hx.v (can_th hc)
 obtain ⟨h0_,h1_⟩:=th_rng hx.v (can_th hc)
 have hlc:=hx.v.thc _ _ hth
 have hll:=hlc.len
 have hvm:=vmax hc hth hlc
 rw [Int.toNat_natCast] at hvm
 have hl1:=hx.own _ _ hth
 rw [Int.toNat_natCast] at hl1
 have hlg:=g_rng hlc.rng (by decide) t
 have htn:t < 65535:=by omega
 refine cK (A:=rfR pa pc b M x) Tk ?_
 refine rf_open fun cb Va Vc La Lc Oa Oc Ra Rc Xa Xc r hR hP=>?_
 obtain ⟨-,hts_,-⟩:=stF_nz (can_th hc)
 rw [Int.toNat_natCast] at hts_
 have hVn:=hR.Vn
 have hLn:=hR.Ln
 have hOn:=hR.On
 have hXn:=hR.Xn
 have hRl:=hR.Rl
 have hTl:=hx.v.ck.tl
 have hOl:=hx.v.ck.ol
 obtain ⟨h,hh⟩:=cP (l:=r.V) (i:=t) Om
 obtain ⟨ho,htr⟩:=hR.V t h hh
 have htl:tr h.2.2=l:=htr.trans (thF_eq hth)
 have hgt:h.2.2.getD t 0=l.getD t 0:=by rw [← htl,tr_g]
 have hol:=ho.1
 obtain ⟨hA,hB⟩:=rel_iff.1 hR
 have hmx:l.getD t 0=maxC∧relK k:=Classical.byContradiction fun h9=>hv (hvm.2 fun h8 h7=>h9 ⟨h8,h7⟩)
 refine qC (.q 0 (.q 1 (.done))) Kr ?_
 refine qK rfl rfl rfl rfl (cY rfl rfl rfl rfl υ'31 ?_)
 refine kH 14 rfl (v':=.bool false) rfl ?_
 refine qS (qQ (kB rfl ?_))
 refine qF (qQ (qG (qG (kX rfl (.q 0 (.q 1 (.q 2 (.q 3 (.q 4 ((.l 5 [] (.q 6 (.q 7 (.q 8 (.q 9 ((.l 10 [] (.q 11 (.q 12 (.q 13 (.q 14 (.q 15 (.q 16 (.q 17 (.q 18 (.q 19 (.q 20 (.q 21 ((.l 22 [] (.q 23 (.q 24 (.q 25 (.done)))))))))))))))))))))))))))))) Kr ?_))))
 refine qK rfl rfl rfl rfl (qX rfl rfl rfl rfl (qL (k:=0) rfl rfl rfl rfl υ'97 rfl ζ'91 rfl ?_))
 refine qP (j:=0) rfl rfl rfl rfl α'91 Tk Az (by rfl) ?_
 refine kN rfl rfl rfl rfl α'36 ζ'36 Tk 0 (us:=[_,_,_]) Az rfl rfl ?_
 have sp_1:=Fe.rcan_spec pa pc cb x.v.ck hx.v.ck k ((t:Nat):Int) ((o:Nat):Int)
 refine qM rfl rfl rfl rfl rfl rfl κ'33 (sp_1) Ts ?_
 rintro ⟨⟩ -
 try simp only [List.cons_append,List.nil_append]
 refine qV (rL rfl rfl rfl rfl ?_)
 refine qK rfl rfl rfl rfl ?_
 refine s_bool_np 22 rfl (fun hg=>by exfalso;exact hg hc) (fun hg=>?_)
 refine qL (k:=0) rfl rfl rfl rfl υ'36 rfl ζ'34 rfl ?_
 refine qP (j:=0) rfl rfl rfl rfl α'34 Tk Az (by rfl) ?_
 have sp_2:=rreleases_spec k
 refine qM rfl rfl rfl rfl rfl rfl κ'34 (sp_2) Ts ?_
 rintro ⟨⟩ -
 try simp only [List.cons_append,List.nil_append]
 refine qV (qK rfl rfl rfl rfl ?_)
 refine cL 26 rfl (fun hg=>?_) (fun hg=>by exfalso;exact hg hmx.2)
 refine qK rfl rfl rfl rfl (qX rfl rfl rfl rfl (qL (k:=1) rfl rfl rfl rfl υ'97 rfl ζ'66 rfl ?_))
 refine qP (j:=1) rfl rfl rfl rfl α'66 Tk Az (by rfl) ?_
 refine qL (k:=1) rfl rfl rfl rfl υ'36 rfl ζ'3 rfl ?_
 refine qP (j:=1) rfl rfl rfl rfl α'3 Tk Az (by rfl) ?_
 refine kY (sz:=0) (k:=t) (enc:=encH) (xs:=r.V) rfl rfl rfl rfl rfl υ'66 ζ'50 hh (by first | rfl | omega) Om Tk ?_
 intro ib33 io33 ha33 hl33 hc33
 refine kQ (v:=(.slice h.1 h.2.2.length h.2.1)) (j:=0) (k':=t) (enc:=encH) (off:=io33) rfl rfl rfl rfl α'50 ha33 kD hh Tk (by first | rfl | exact (Nat.add_zero _).symm | omega) (by rfl) ?_
 refine qL (k:=1) rfl rfl rfl rfl υ'36 rfl ζ'3 rfl ?_
 refine qP (j:=1) rfl rfl rfl rfl α'3 Tk Az (by rfl) ?_
 have sp_3:=Fr.at_spec h.2.2 h.1 h.2.2.length h.2.1 (bigS (owA 1 encU) M) (inp_rds (hP.V _ (List.mem_of_getElem? hh))) Ln Om t
 refine qM rfl rfl rfl rfl rfl rfl κ'35 (sp_3) Ts ?_
 rintro ⟨⟩ -
 try simp only [List.cons_append,List.nil_append]
 refine qV (qN rfl rfl rfl rfl rfl (cS _ _ _ _) ?_)
 refine kZ rfl rfl rfl rfl rfl (kC rfl rfl rfl rfl rfl (qS (qW [0,3,40] (e':=[(0,_),(3,_),(40,_)]) rfl ?_)))
 refine qQ ?_
 refine qB rfl (fun hg=>?_) (fun hg=>by exfalso;exact hg (hgt.trans hmx.1))
 refine qG (qC (.q 0 (.done)) Kr ?_)
 refine qR rfl rfl rfl rfl (qS (qQ (qJ (qD (rf_fold (b:=b) (M:=M) x ⟨r.V,r.L,r.O,r.R,r.X⟩ (pa:=pa) (pc:=pc) (cb:=cb) (Va:=Va) (Vc:=Vc) (La:=La) (Lc:=Lc) (Oa:=Oa) (Oc:=Oc) (Ra:=Ra) (Rc:=Rc) (Xa:=Xa) (Xc:=Xc) Ts rfl (by first | rfl | simp) (by first | rfl | simp) (by first | rfl | simp) (by first | rfl | simp) (by first | rfl | simp) rfl rfl hR hP ?_)))))
 refine cR rfl rfl (M) (by first | rfl | (first | rfl | (congr 1;done) | (congr 1 <;> first | rfl | omega | (simp;done) | (simp;omega)))) (by exact fun _ h_=>h_) ?_
 exact Tf
theorem revent_can (pa:Option Addr) (pc b:Nat) (M:List H) (x:FS) (hx:FInv x) (hn:x.v.ck.n≤4000000) (pl:List Int) (hpl:x.v.ck.pa=pl) (k:Int) (t o:Nat) (hv:vcanF x.v k ((t:Nat):Int) ((o:Nat):Int)):Spec Try.prog 13 [.pointer (some ⟨b,0,none⟩),.agg #[.int .i64 k,.int .i64 ((t:Nat):Int),.int .i64 ((o:Nat):Int)]] [rfR pa pc b M x,own 1 encZ pa pc pl,bigS (owA 1 encU) M] (fun (M':List H)=>.int .i64 (feE x k ((t:Nat):Int) ((o:Nat):Int))) (fun M'=>∀ q_∈M,q_∈M') (fun M'=>[rfR pa pc b M' (feF x k ((t:Nat):Int) ((o:Nat):Int)),own 1 encZ pa pc pl,bigS (owA 1 encU) M']):=by
 refine kP (n:=291) Try.func13 rfl rfl rfl ?_
 intro Γ w0
 simp only [argE,List.cons_append,List.nil_append,Nat.zero_add,Nat.reduceAdd]
 refine qG (qC ((.l 0 [] (.q 1 (.done)))) Kr ?_)
 refine sX rfl rfl rfl rfl (us:=[_,_,_]) rfl ?_
 intro b3
 refine qV (qR rfl rfl rfl rfl (qS (qQ (qG (qG ?_)))))
 have hc:=hv.1
 have hcc:=hx.c0
 have hlen:=hx.len
 have hn0:=hx.v.ck.n0
 have hrl:=hx.v.ck.sh
 obtain ⟨l,hth⟩:=th_some hx.v (can_th hc)
 obtain ⟨h0_,h1_⟩:=th_rng hx.v (can_th hc)
 have hlc:=hx.v.thc _ _ hth
 have hll:=hlc.len
 have hvm:=vmax hc hth hlc
 rw [Int.toNat_natCast] at hvm
 have hl1:=hx.own _ _ hth
 rw [Int.toNat_natCast] at hl1
 have hlg:=g_rng hlc.rng (by decide) t
 have htn:t < 65535:=by omega
 refine cK (A:=rfR pa pc b M x) Tk ?_
 refine rf_open fun cb Va Vc La Lc Oa Oc Ra Rc Xa Xc r hR hP=>?_
 obtain ⟨-,hts_,-⟩:=stF_nz (can_th hc)
 rw [Int.toNat_natCast] at hts_
 have hVn:=hR.Vn
 have hLn:=hR.Ln
 have hOn:=hR.On
 have hXn:=hR.Xn
 have hRl:=hR.Rl
 have hTl:=hx.v.ck.tl
 have hOl:=hx.v.ck.ol
 obtain ⟨h,hh⟩:=cP (l:=r.V) (i:=t) Om
 obtain ⟨ho,htr⟩:=hR.V t h hh
 have htl:tr h.2.2=l:=htr.trans (thF_eq hth)
 have hgt:h.2.2.getD t 0=l.getD t 0:=by rw [← htl,tr_g]
 have hol:=ho.1
 obtain ⟨hA,hB⟩:=rel_iff.1 hR
 refine qC (.q 0 (.q 1 (.done))) Kr ?_
 refine qK rfl rfl rfl rfl (cY rfl rfl rfl rfl υ'31 ?_)
 refine kH 14 rfl (v':=.bool false) rfl ?_
 refine qS (qQ (kB rfl ?_))
 refine qF (qQ (qG ?_))
 refine c_seqJ (α:=Unit) (fun (z_:Unit)=>True) (fun (z_:Unit)=>[(40,.bool false)]) (fun (z_:Unit)=>[]) [0,3] (er:=[(0,_),(3,_)]) rfl [] Ts ?_ ?_
 ·
  refine kX rfl (.q 0 (.q 1 (.q 2 (.q 3 (.q 4 ((.l 5 [] (.q 6 (.q 7 (.q 8 (.q 9 ((.l 10 [] (.q 11 (.q 12 (.q 13 (.q 14 (.q 15 (.q 16 (.q 17 (.q 18 (.q 19 (.q 20 (.q 21 ((.l 22 [] (.q 23 (.q 24 (.q 25 (.done)))))))))))))))))))))))))))))) Kr ?_
  refine qK rfl rfl rfl rfl (qX rfl rfl rfl rfl (qL (k:=0) rfl rfl rfl rfl υ'97 rfl ζ'91 rfl ?_))
  refine qP (j:=0) rfl rfl rfl rfl α'91 Tk Az (by rfl) ?_
  refine kN rfl rfl rfl rfl α'36 ζ'36 Tk 0 (us:=[_,_,_]) Az rfl rfl ?_
  have sp_1:=Fe.rcan_spec pa pc cb x.v.ck hx.v.ck k ((t:Nat):Int) ((o:Nat):Int)
  refine qM rfl rfl rfl rfl rfl rfl κ'33 (sp_1) Ts ?_
  rintro ⟨⟩ -
  try simp only [List.cons_append,List.nil_append]
  refine qV (rL rfl rfl rfl rfl ?_)
  refine qK rfl rfl rfl rfl ?_
  refine s_bool_np 22 rfl (fun hg=>by exfalso;exact hg hc) (fun hg=>?_)
  refine qL (k:=0) rfl rfl rfl rfl υ'36 rfl ζ'34 rfl ?_
  refine qP (j:=0) rfl rfl rfl rfl α'34 Tk Az (by rfl) ?_
  have sp_2:=rreleases_spec k
  refine qM rfl rfl rfl rfl rfl rfl κ'34 (sp_2) Ts ?_
  rintro ⟨⟩ -
  try simp only [List.cons_append,List.nil_append]
  refine qV (qK rfl rfl rfl rfl ?_)
  refine cL 26 rfl (fun hrel=>?_) (fun hrel=>?_)
  ·
   refine qK rfl rfl rfl rfl (qX rfl rfl rfl rfl (qL (k:=1) rfl rfl rfl rfl υ'97 rfl ζ'66 rfl ?_))
   refine qP (j:=1) rfl rfl rfl rfl α'66 Tk Az (by rfl) ?_
   refine qL (k:=1) rfl rfl rfl rfl υ'36 rfl ζ'3 rfl ?_
   refine qP (j:=1) rfl rfl rfl rfl α'3 Tk Az (by rfl) ?_
   refine kY (sz:=0) (k:=t) (enc:=encH) (xs:=r.V) rfl rfl rfl rfl rfl υ'66 ζ'50 hh (by first | rfl | omega) Om Tk ?_
   intro ib33 io33 ha33 hl33 hc33
   refine kQ (v:=(.slice h.1 h.2.2.length h.2.1)) (j:=0) (k':=t) (enc:=encH) (off:=io33) rfl rfl rfl rfl α'50 ha33 kD hh Tk (by first | rfl | exact (Nat.add_zero _).symm | omega) (by rfl) ?_
   refine qL (k:=1) rfl rfl rfl rfl υ'36 rfl ζ'3 rfl ?_
   refine qP (j:=1) rfl rfl rfl rfl α'3 Tk Az (by rfl) ?_
   have sp_3:=Fr.at_spec h.2.2 h.1 h.2.2.length h.2.1 (bigS (owA 1 encU) M) (inp_rds (hP.V _ (List.mem_of_getElem? hh))) Ln Om t
   refine qM rfl rfl rfl rfl rfl rfl κ'35 (sp_3) Ts ?_
   rintro ⟨⟩ -
   try simp only [List.cons_append,List.nil_append]
   refine qV (qN rfl rfl rfl rfl rfl (cS _ _ _ _) ?_)
   refine kZ rfl rfl rfl rfl rfl (kC rfl rfl rfl rfl rfl (qS (qW [0,3,40] (e':=[(0,_),(3,_),(40,_)]) rfl ?_)))
   refine qQ (kH 40 rfl (v':=.bool false) (by first | rfl | (rw [decide_eq_false (fun h9=>hvm.1 hv (by rw [← hgt];exact h9) hrel)])) ?_)
   refine sY (()) (by trivial) (by exact ⟨rfl,rfl,rfl,trivial⟩) (by (try simp only [List.cons_append,List.nil_append]);(repeat ((with_reducible apply Z2);focus (first | (with_reducible (repeat (first | exact Z0 | apply Z1));done) | (repeat (first | exact Z0 | apply Z1)))));(repeat (first | exact Z3 | exact Takes.self | refine sS ?_)))
  refine qY rfl rfl rfl rfl (qY rfl rfl rfl rfl (qY rfl rfl rfl rfl (qY rfl rfl rfl rfl (qY rfl rfl rfl rfl (qY rfl rfl rfl rfl (qY rfl rfl rfl rfl (qY rfl rfl rfl rfl (qY rfl rfl rfl rfl ?_))))))))
  refine qY rfl rfl rfl rfl (sZ rfl rfl rfl rfl ?_)
  refine qY rfl rfl rfl rfl (kC rfl rfl rfl rfl rfl (kC rfl rfl rfl rfl rfl (qS (qW [0,3,40] (e':=[(0,_),(3,_),(40,_)]) rfl ?_))))
  refine qQ ?_
  refine sY (()) (by trivial) (by exact ⟨rfl,rfl,rfl,trivial⟩) (by (try simp only [List.cons_append,List.nil_append]);(repeat ((with_reducible apply Z2);focus (first | (with_reducible (repeat (first | exact Z0 | apply Z1));done) | (repeat (first | exact Z0 | apply Z1)))));(repeat (first | exact Z3 | exact Takes.self | refine sS ?_)))
 rintro ⟨⟩ -
 try simp only [List.cons_append,List.nil_append]
 refine kB rfl ?_
 refine qF (qQ (qG (qC (.q 0 (.q 1 (.q 2 (.done)))) Kr ?_)))
 refine qL (k:=1) rfl rfl rfl rfl υ'36 rfl ζ'3 rfl ?_
 refine qP (j:=1) rfl rfl rfl rfl α'3 Tk Az (by rfl) ?_
 refine qR rfl rfl rfl rfl (qS (qQ (qG (qC (.q 0 (.q 1 (.q 2 (.q 3 (.q 4 ((.l 5 [] (.q 6 (.q 7 (.q 8 ((.l 9 [] ((.l 10 [] (.q 11 (.done)))))))))))))))) Kr ?_))))
 refine qK rfl rfl rfl rfl (qX rfl rfl rfl rfl (qL (k:=0) rfl rfl rfl rfl υ'97 rfl ζ'91 rfl ?_))
 refine qP (j:=0) rfl rfl rfl rfl α'91 Tk Az (by rfl) ?_
 refine qK rfl rfl rfl rfl ?_
 have sp_4:=Fe.rstand_spec pa pc cb x.v.ck hx.v.ck ((t:Nat):Int)
 refine qM rfl rfl rfl rfl rfl rfl Try.call36 (sp_4) Ts ?_
 rintro ⟨⟩ -
 try simp only [List.cons_append,List.nil_append]
 refine qV (qK rfl rfl rfl rfl (kW rfl rfl rfl rfl rfl (kW rfl rfl rfl rfl rfl (cF rfl rfl rfl ω'107 (zs:=[.int .i64 0,.int .i64 0,.int .i64 0]) rfl ?_))))
 intro b6
 refine qV (kR (j:=0) rfl rfl rfl rfl ζ'107 (us:=[_,_,_]) rfl rfl rfl Tk Az (by first | decide | (simp;done) | omega) ?_)
 simp only [setL,List.set]
 refine qV (qR rfl rfl rfl rfl (qS (qW [0,3,5,6] (e':=[(0,_),(3,_),(5,_),(6,_)]) rfl ?_)))
 refine qQ (qG (qC (.q 0 (.q 1 (.q 2 (.q 3 ((.l 4 [] (.q 5 (.done)))))))) Kr ?_))
 refine qK rfl rfl rfl rfl (qX rfl rfl rfl rfl (qL (k:=0) rfl rfl rfl rfl υ'97 rfl ζ'91 rfl ?_))
 refine qP (j:=0) rfl rfl rfl rfl α'91 Tk Az (by rfl) ?_
 have sp_5:=Fe.rlen_spec pa pc cb x.v.ck
 refine qM rfl rfl rfl rfl rfl rfl Try.call37 (sp_5) Ts ?_
 rintro ⟨⟩ -
 try simp only [List.cons_append,List.nil_append]
 refine qV (qR rfl rfl rfl rfl (qS (qW [0,3,5,6,8] (e':=[(0,_),(3,_),(5,_),(6,_),(8,_)]) rfl ?_)))
 refine qQ (qG (kX rfl (.q 0 (.q 1 (.q 2 (.q 3 (.q 4 ((.l 5 [] (.done)))))))) Kr ?_))
 refine qK rfl rfl rfl rfl (qX rfl rfl rfl rfl (qL (k:=0) rfl rfl rfl rfl υ'97 rfl ζ'91 rfl ?_))
 refine qP (j:=0) rfl rfl rfl rfl α'91 Tk Az (by rfl) ?_
 refine kN rfl rfl rfl rfl α'36 ζ'36 Tk 0 (us:=[_,_,_]) Az rfl rfl ?_
 have sp_6:=Fe.rnext_spec pa pc cb x.v.ck hx.v.ck Om pl (hpl) k ((t:Nat):Int) ((o:Nat):Int)
 refine qM rfl rfl rfl rfl rfl rfl Try.call38 (sp_6) Ts ?_
 rintro ⟨⟩ -
 try simp only [List.cons_append,List.nil_append]
 refine qV (qS (qW [0,3,5,6,8] (e':=[(0,_),(3,_),(5,_),(6,_),(8,_)]) rfl ?_))
 refine qQ (qG (qG (qC (.q 0 (.q 1 (.done))) Kr ?_)))
 refine qL (k:=0) rfl rfl rfl rfl υ'36 rfl ζ'34 rfl ?_
 refine qP (j:=0) rfl rfl rfl rfl α'34 Tk Az (by rfl) ?_
 refine qS (qQ (kS (qG (qC (.q 0 (.q 1 (.done))) Kr ?_))))
 refine qN rfl rfl rfl rfl rfl (cS _ _ _ _) ?_
 refine qR rfl rfl rfl rfl (qS (qQ ?_))
 refine qB rfl (fun k1=>?_) (fun k1=>?_)
 ·
  obtain ⟨p0,p1⟩:=acc_obj hc Om
  obtain ⟨w,hw⟩:=cP (l:=x.vs) (i:=o) Om
  obtain ⟨q,hq⟩:=cP (l:=r.X) (i:=o) Om
  obtain ⟨hrv,hov⟩:=hR.X o w q hw hq
  refine qC (.q 0 (.q 1 (.q 2 (.q 3 (.q 4 ((.l 5 [] (.done)))))))) Kr ?_
  refine qK rfl rfl rfl rfl (qK rfl rfl rfl rfl (qL (k:=2) rfl rfl rfl rfl υ'36 rfl ζ'3 rfl ?_))
  refine qP (j:=2) rfl rfl rfl rfl α'3 Tk Az (by rfl) ?_
  refine qK rfl rfl rfl rfl ?_
  have sp_7:=rread_spec b r.V.length r.X.length Vc Xc t o (.pointer (some ⟨cb,0,none⟩)) (.slice La r.L.length Lc) (.slice Oa r.O.length Oc) (.slice Ra r.R.length Rc) x.cost x.v.ck.n Va Xa r.V M r.X h q w rfl rfl hh hq ho (hP.V _ (List.mem_of_getElem? hh)) hrv hov (hP.X _ (List.mem_of_getElem? hq)) htn Om Om
  refine qM rfl rfl rfl rfl rfl rfl Try.call39 (sp_7) Ts ?_
  rintro ⟨q2,N⟩ ⟨hq1,hq2,hq3⟩
  try simp only [List.cons_append,List.nil_append]
  refine qV (qS (qW [0,3,5] (e':=[(0,_),(3,_),(5,_)]) rfl ?_))
  refine kK (qQ (qG (qG (qC (.q 0 (.q 1 ((.l 2 [] (.done))))) Kr ?_))))
  refine qL (k:=0) rfl rfl rfl rfl υ'36 rfl ζ'34 rfl ?_
  refine qP (j:=0) rfl rfl rfl rfl α'34 Tk Az (by rfl) ?_
  have sp_8:=rreleases_spec k
  refine qM rfl rfl rfl rfl rfl rfl κ'34 (sp_8) Ts ?_
  rintro ⟨⟩ -
  try simp only [List.cons_append,List.nil_append]
  refine qV (qS (qQ ?_))
  refine qB rfl (fun hg=>by exfalso;unfold relK at hg;omega) (fun hg=>?_)
  refine qF (qQ (qG (qC (.q 0 (.done)) Kr ?_)))
  refine qR rfl rfl rfl rfl (qS (qW [4] (e':=[(4,_)]) rfl ?_))
  refine qQ (qJ ?_)
  have hF:(feF x k ((t:Nat):Int) ((o:Nat):Int))=⟨⟨nxF x.v.ck k ((t:Nat):Int) ((o:Nat):Int),x.v.th,x.v.lk,x.v.vo,x.v.rd⟩,x.vs.set o (rdV t (tr h.2.2) x.v.ck.n w).1,x.cost+(rdV t (tr h.2.2) x.v.ck.n w).2⟩:=(by rw [htl,fe_rd hv k1 (by rw [Int.toNat_natCast];exact hw) hth,vn0 Om Om Om Om Om Om Om Om,Int.toNat_natCast,Int.toNat_natCast])
  refine rf_fold (b:=b) (M:=(M++N)) (feF x k ((t:Nat):Int) ((o:Nat):Int)) ⟨r.V,r.L,r.O,r.R,(r.X.set o q2)⟩ (pa:=pa) (pc:=pc) (cb:=cb) (Va:=Va) (Vc:=Vc) (La:=La) (Lc:=Lc) (Oa:=Oa) (Oc:=Oc) (Ra:=Ra) (Rc:=Rc) (Xa:=Xa) (Xc:=Xc) Ts rfl (by first | rfl | simp) (by first | rfl | simp) (by first | rfl | simp) (by first | rfl | simp) (by first | rfl | simp) (fe_ck hv).symm (by rw [hF]) (by rw [hF];exact rel_iff.2 ⟨(relA_X (relA_next hA _ _ _) hq1 hq2),relR_keep hB hx.v.ck hc Om⟩) (pool_X (poolA_app hP) hq3) ?_
  refine cR rfl rfl ((M++N)) (by rw [feE,if_pos hv]) (by exact fun q_ h_=>List.mem_append_left _ h_) ?_
  exact Tf
 refine qG (qC (.q 0 (.q 1 (.done))) Kr ?_)
 refine qN rfl rfl rfl rfl rfl (cS _ _ _ _) ?_
 refine qR rfl rfl rfl rfl (qS (qW [0,3,5,6,8,64,73] (e':=[(0,_),(3,_),(5,_),(6,_),(8,_),(64,_),(73,_)]) rfl ?_))
 refine qQ ?_
 refine qB rfl (fun k2=>?_) (fun k2=>?_)
 ·
  obtain ⟨p0,p1⟩:=acc_obj hc Om
  obtain ⟨w,hw⟩:=cP (l:=x.vs) (i:=o) Om
  obtain ⟨q,hq⟩:=cP (l:=r.X) (i:=o) Om
  obtain ⟨hrv,hov⟩:=hR.X o w q hw hq
  refine qC (.q 0 (.q 1 (.q 2 (.q 3 (.q 4 ((.l 5 [] (.done)))))))) Kr ?_
  refine qK rfl rfl rfl rfl (qK rfl rfl rfl rfl (qL (k:=2) rfl rfl rfl rfl υ'36 rfl ζ'3 rfl ?_))
  refine qP (j:=2) rfl rfl rfl rfl α'3 Tk Az (by rfl) ?_
  refine qK rfl rfl rfl rfl ?_
  have sp_9:=rwrite_spec b r.V.length r.X.length Vc Xc t o (.pointer (some ⟨cb,0,none⟩)) (.slice La r.L.length Lc) (.slice Oa r.O.length Oc) (.slice Ra r.R.length Rc) x.cost x.v.ck.n Va Xa r.V M r.X h q w rfl rfl hh hq ho (hP.V _ (List.mem_of_getElem? hh)) hrv hov (hP.X _ (List.mem_of_getElem? hq)) htn Om Om
  refine qM rfl rfl rfl rfl rfl rfl Try.call40 (sp_9) Ts ?_
  rintro ⟨q2,N⟩ ⟨hq1,hq2,hq3⟩
  try simp only [List.cons_append,List.nil_append]
  refine qV (qS (qW [0,3,5] (e':=[(0,_),(3,_),(5,_)]) rfl ?_))
  refine kK (qQ (qG (qG (qC (.q 0 (.q 1 ((.l 2 [] (.done))))) Kr ?_))))
  refine qL (k:=0) rfl rfl rfl rfl υ'36 rfl ζ'34 rfl ?_
  refine qP (j:=0) rfl rfl rfl rfl α'34 Tk Az (by rfl) ?_
  have sp_10:=rreleases_spec k
  refine qM rfl rfl rfl rfl rfl rfl κ'34 (sp_10) Ts ?_
  rintro ⟨⟩ -
  try simp only [List.cons_append,List.nil_append]
  refine qV (qS (qQ ?_))
  refine qB rfl (fun hg=>by exfalso;unfold relK at hg;omega) (fun hg=>?_)
  refine qF (qQ (qG (qC (.q 0 (.done)) Kr ?_)))
  refine qR rfl rfl rfl rfl (qS (qW [4] (e':=[(4,_)]) rfl ?_))
  refine qQ (qJ ?_)
  have hF:(feF x k ((t:Nat):Int) ((o:Nat):Int))=⟨⟨nxF x.v.ck k ((t:Nat):Int) ((o:Nat):Int),x.v.th,x.v.lk,x.v.vo,x.v.rd⟩,x.vs.set o (wrV t (tr h.2.2) x.v.ck.n w).1,x.cost+(wrV t (tr h.2.2) x.v.ck.n w).2⟩:=(by rw [htl,fe_wr hv k2 (by rw [Int.toNat_natCast];exact hw) hth,vn0 Om Om Om Om Om Om Om Om,Int.toNat_natCast,Int.toNat_natCast])
  refine rf_fold (b:=b) (M:=(M++N)) (feF x k ((t:Nat):Int) ((o:Nat):Int)) ⟨r.V,r.L,r.O,r.R,(r.X.set o q2)⟩ (pa:=pa) (pc:=pc) (cb:=cb) (Va:=Va) (Vc:=Vc) (La:=La) (Lc:=Lc) (Oa:=Oa) (Oc:=Oc) (Ra:=Ra) (Rc:=Rc) (Xa:=Xa) (Xc:=Xc) Ts rfl (by first | rfl | simp) (by first | rfl | simp) (by first | rfl | simp) (by first | rfl | simp) (by first | rfl | simp) (fe_ck hv).symm (by rw [hF]) (by rw [hF];exact rel_iff.2 ⟨(relA_X (relA_next hA _ _ _) hq1 hq2),relR_keep hB hx.v.ck hc Om⟩) (pool_X (poolA_app hP) hq3) ?_
  refine cR rfl rfl ((M++N)) (by rw [feE,if_pos hv]) (by exact fun q_ h_=>List.mem_append_left _ h_) ?_
  exact Tf
 refine qG (qC (.q 0 (.q 1 (.done))) Kr ?_)
 refine qN rfl rfl rfl rfl rfl (cS _ _ _ _) ?_
 refine qR rfl rfl rfl rfl (qS (qQ ?_))
 refine qB rfl (fun k5=>?_) (fun k5=>?_)
 ·
  obtain ⟨o5,o7,o9,o10,o11⟩:=can_obj hx.v.ck hc
  have hsh:=hx.v.ck.sh
  rw [Int.toNat_natCast] at o5 o7 o9
  obtain ⟨g,hg_⟩:=cP (l:=r.L) (i:=o) Om
  obtain ⟨hgo,hgt2⟩:=hR.L o g hg_
  have hgl:=hgo.1
  refine kX rfl (.q 0 (.q 1 (.q 2 (.q 3 (.q 4 (.q 5 (.q 6 (.q 7 (.q 8 (.q 9 (.q 10 (.q 11 (.q 12 (.q 13 (.q 14 (.q 15 (.q 16 (.q 17 (.q 18 (.q 19 ((.l 20 [3] (.q 21 ((.l 22 [] (.done)))))))))))))))))))))))))) Kr ?_
  refine qK rfl rfl rfl rfl (qX rfl rfl rfl rfl (qL (k:=1) rfl rfl rfl rfl υ'97 rfl ζ'66 rfl ?_))
  refine qP (j:=1) rfl rfl rfl rfl α'66 Tk Az (by rfl) ?_
  refine qK rfl rfl rfl rfl (qK rfl rfl rfl rfl (qX rfl rfl rfl rfl (qL (k:=1) rfl rfl rfl rfl υ'97 rfl ζ'66 rfl ?_)))
  refine qP (j:=1) rfl rfl rfl rfl α'66 Tk Az (by rfl) ?_
  refine qK rfl rfl rfl rfl (kY (sz:=0) (k:=t) (enc:=encH) (xs:=r.V) rfl rfl rfl rfl rfl υ'66 ζ'50 hh (by first | rfl | omega) Om Tk ?_)
  intro ib93 io93 ha93 hl93 hc93
  refine kQ (v:=(.slice h.1 h.2.2.length h.2.1)) (j:=0) (k':=t) (enc:=encH) (off:=io93) rfl rfl rfl rfl α'50 ha93 kD hh Tk (by first | rfl | exact (Nat.add_zero _).symm | omega) (by rfl) ?_
  refine qK rfl rfl rfl rfl (qX rfl rfl rfl rfl (qL (k:=2) rfl rfl rfl rfl υ'97 rfl ζ'66 rfl ?_))
  refine qP (j:=2) rfl rfl rfl rfl α'66 Tk Az (by rfl) ?_
  refine qL (k:=2) rfl rfl rfl rfl υ'36 rfl ζ'3 rfl ?_
  refine qP (j:=2) rfl rfl rfl rfl α'3 Tk Az (by rfl) ?_
  refine kY (sz:=0) (k:=o) (enc:=encH) (xs:=r.L) rfl rfl rfl rfl rfl υ'66 ζ'50 hg_ (by first | rfl | omega) Om Tk ?_
  intro ib101 io101 ha101 hl101 hc101
  refine kQ (v:=(.slice g.1 g.2.2.length g.2.1)) (j:=0) (k':=o) (enc:=encH) (off:=io101) rfl rfl rfl rfl α'50 ha101 kD hg_ Tk (by first | rfl | exact (Nat.add_zero _).symm | omega) (by rfl) ?_
  have sp_11:=Fr.joined_spec h.2.2 g.2.2 h.1 g.1 h.2.2.length g.2.2.length h.2.1 g.2.1 (bigS (owA 1 encU) M) (inp_rds (hP.V _ (List.mem_of_getElem? hh))) (inp_rds (hP.L _ (List.mem_of_getElem? hg_))) Ln Ln Om Om
  refine qM rfl rfl rfl rfl rfl rfl κ'41 (sp_11) Ts ?_
  rintro ⟨qa,qc⟩ -
  try simp only [List.cons_append,List.nil_append]
  refine s_pool (ao:=qa) (cap:=qc) (l:=(jndL h.2.2 g.2.2)) (M:=M) Ts fun hpq=>?_
  try simp only [List.cons_append,List.nil_append]
  refine qH (q:=1) rfl rfl rfl α'66 Tk Az (by rfl) ?_
  refine qV (kY (sz:=0) (k:=t) (enc:=encH) (xs:=r.V) rfl rfl rfl rfl rfl υ'66 ζ'50 hh (by first | rfl | omega) Om Tk ?_)
  intro ib104 io104 ha104 hl104 hc104
  refine kJ (j:=0) (k:=t) (q:=((qa,qc,(jndL h.2.2 g.2.2)):H)) (enc:=encH) (off:=io104) rfl rfl rfl rfl ζ'50 (us:=[_]) rfl rfl rfl ha104 kD hh Tk (by first | rfl | exact (Nat.add_zero _).symm | omega) (by first | decide | exact Nat.le_of_ble_eq_true rfl) (by rfl) ?_
  refine qV (qS (qW [0,3,5] (e':=[(0,_),(3,_),(5,_)]) rfl ?_))
  refine kK (qQ (qG (qG (qC (.q 0 (.q 1 ((.l 2 [] (.done))))) Kr ?_))))
  refine qL (k:=0) rfl rfl rfl rfl υ'36 rfl ζ'34 rfl ?_
  refine qP (j:=0) rfl rfl rfl rfl α'34 Tk Az (by rfl) ?_
  have sp_12:=rreleases_spec k
  refine qM rfl rfl rfl rfl rfl rfl κ'34 (sp_12) Ts ?_
  rintro ⟨⟩ -
  try simp only [List.cons_append,List.nil_append]
  refine qV (qS (qQ ?_))
  refine qB rfl (fun hg=>by exfalso;unfold relK at hg;omega) (fun hg=>?_)
  refine qF (qQ (qG (qC (.q 0 (.done)) Kr ?_)))
  refine qR rfl rfl rfl rfl (qS (qW [4] (e':=[(4,_)]) rfl ?_))
  refine qQ (qJ ?_)
  have hF:(feF x k ((t:Nat):Int) ((o:Nat):Int))=⟨⟨nxF x.v.ck k ((t:Nat):Int) ((o:Nat):Int),(upd x.v.th ((t:Nat):Int) (some (mgF (x.v.lk ((o:Nat):Int)) l))),x.v.lk,x.v.vo,x.v.rd⟩,x.vs,x.cost⟩:=(by rw [fe_no hv Om Om,vn5 hth k5])
  refine rf_fold (b:=b) (M:=(M++[(qa,qc,(jndL h.2.2 g.2.2))])) (feF x k ((t:Nat):Int) ((o:Nat):Int)) ⟨(r.V.set t ((qa,qc,(jndL h.2.2 g.2.2)):H)),r.L,r.O,r.R,r.X⟩ (pa:=pa) (pc:=pc) (cb:=cb) (Va:=Va) (Vc:=Vc) (La:=La) (Lc:=Lc) (Oa:=Oa) (Oc:=Oc) (Ra:=Ra) (Rc:=Rc) (Xa:=Xa) (Xc:=Xc) Ts rfl (by first | rfl | simp) (by first | rfl | simp) (by first | rfl | simp) (by first | rfl | simp) (by first | rfl | simp) (fe_ck hv).symm (by rw [hF]) (by rw [hF];exact rel_iff.2 ⟨(relA_V (relA_next hA _ _ _) (ok_jnd ho hgo) (by rw [tr_jnd ho hgo,htl,hgt2];exact jn_mg hlc (hx.v.lkc _))),relR_keep hB hx.v.ck hc Om⟩) (pool_V (poolA_app hP) hpq) ?_
  refine cR rfl rfl ((M++[(qa,qc,(jndL h.2.2 g.2.2))])) (by rw [feE,if_pos hv]) (by exact fun q_ h_=>List.mem_append_left _ h_) ?_
  exact Tf
 refine qG (qC (.q 0 (.q 1 (.done))) Kr ?_)
 refine qN rfl rfl rfl rfl rfl (cS _ _ _ _) ?_
 refine qR rfl rfl rfl rfl (qS (qW [0,3,5,6,64,105] (e':=[(0,_),(3,_),(5,_),(6,_),(64,_),(105,_)]) rfl ?_))
 refine qQ ?_
 refine qB rfl (fun k6=>?_) (fun k6=>?_)
 ·
  obtain ⟨o5,o7,o9,o10,o11⟩:=can_obj hx.v.ck hc
  have hsh:=hx.v.ck.sh
  rw [Int.toNat_natCast] at o5 o7 o9
  have hlt:l.getD t 0 < maxC:=by
    have h9:=hv.2 (by unfold relK;omega)
    rw [thF_eq hth,Int.toNat_natCast] at h9;exact h9
  obtain ⟨g,hg_⟩:=cP (l:=r.L) (i:=o) Om
  obtain ⟨hgo,hgt2⟩:=hR.L o g hg_
  have hgl:=hgo.1
  refine kX rfl (.q 0 (.q 1 (.q 2 (.q 3 (.q 4 (.q 5 (.q 6 (.q 7 (.q 8 (.q 9 (.q 10 (.q 11 (.q 12 ((.l 13 [3,5] (.q 14 ((.l 15 [] (.done))))))))))))))))))) Kr ?_
  refine qK rfl rfl rfl rfl (qX rfl rfl rfl rfl (qL (k:=2) rfl rfl rfl rfl υ'97 rfl ζ'66 rfl ?_))
  refine qP (j:=2) rfl rfl rfl rfl α'66 Tk Az (by rfl) ?_
  refine qL (k:=2) rfl rfl rfl rfl υ'36 rfl ζ'3 rfl ?_
  refine qP (j:=2) rfl rfl rfl rfl α'3 Tk Az (by rfl) ?_
  refine qK rfl rfl rfl rfl (qX rfl rfl rfl rfl (qL (k:=1) rfl rfl rfl rfl υ'97 rfl ζ'66 rfl ?_))
  refine qP (j:=1) rfl rfl rfl rfl α'66 Tk Az (by rfl) ?_
  refine qK rfl rfl rfl rfl (kY (sz:=0) (k:=t) (enc:=encH) (xs:=r.V) rfl rfl rfl rfl rfl υ'66 ζ'50 hh (by first | rfl | omega) Om Tk ?_)
  intro ib118 io118 ha118 hl118 hc118
  refine kQ (v:=(.slice h.1 h.2.2.length h.2.1)) (j:=0) (k':=t) (enc:=encH) (off:=io118) rfl rfl rfl rfl α'50 ha118 kD hh Tk (by first | rfl | exact (Nat.add_zero _).symm | omega) (by rfl) ?_
  have sp_13:=Fr.joined_spec h.2.2 ([]) h.1 none h.2.2.length 0 h.2.1 0 (bigS (owA 1 encU) M) (inp_rds (hP.V _ (List.mem_of_getElem? hh))) (.inl rfl) Ln Ln Om Om
  refine qM rfl rfl rfl rfl rfl rfl κ'41 (sp_13) Ts ?_
  rintro ⟨qa,qc⟩ -
  try simp only [List.cons_append,List.nil_append]
  refine s_pool (ao:=qa) (cap:=qc) (l:=(jndL h.2.2 ([]))) (M:=M) Ts fun hpq=>?_
  try simp only [List.cons_append,List.nil_append]
  refine qH (q:=2) rfl rfl rfl α'66 Tk Az (by rfl) ?_
  refine qH (q:=2) rfl rfl rfl α'3 Tk Az (by rfl) ?_
  refine qV (kY (sz:=0) (k:=o) (enc:=encH) (xs:=r.L) rfl rfl rfl rfl rfl υ'66 ζ'50 hg_ (by first | rfl | omega) Om Tk ?_)
  intro ib121 io121 ha121 hl121 hc121
  refine kJ (j:=0) (k:=o) (q:=((qa,qc,(jndL h.2.2 ([]))):H)) (enc:=encH) (off:=io121) rfl rfl rfl rfl ζ'50 (us:=[_]) rfl rfl rfl ha121 kD hg_ Tk (by first | rfl | exact (Nat.add_zero _).symm | omega) (by first | decide | exact Nat.le_of_ble_eq_true rfl) (by rfl) ?_
  refine qV (qS (qW [0,3,5] (e':=[(0,_),(3,_),(5,_)]) rfl ?_))
  refine kK (qQ (qG (qG (qC (.q 0 (.q 1 ((.l 2 [] (.done))))) Kr ?_))))
  refine qL (k:=0) rfl rfl rfl rfl υ'36 rfl ζ'34 rfl ?_
  refine qP (j:=0) rfl rfl rfl rfl α'34 Tk Az (by rfl) ?_
  have sp_14:=rreleases_spec k
  refine qM rfl rfl rfl rfl rfl rfl κ'34 (sp_14) Ts ?_
  rintro ⟨⟩ -
  try simp only [List.cons_append,List.nil_append]
  refine qV (qS (qQ ?_))
  refine qB rfl (fun hg=>?_) (fun hg=>by exfalso;exact hg (by unfold relK;omega))
  refine qC (.q 0 (.q 1 ((.l 2 [] (.done))))) Kr ?_
  refine qK rfl rfl rfl rfl (qK rfl rfl rfl rfl ?_)
  have sp_15:=more_spec b r.V.length Vc t (.pointer (some ⟨cb,0,none⟩)) (.slice La r.L.length Lc) (.slice Oa r.O.length Oc) (.slice Ra r.R.length Rc) (.slice Xa r.X.length Xc) (.int .i64 x.cost) Va r.V (M++[(qa,qc,(jndL h.2.2 ([])))]) h (by simp) hh ho (inp_add (hP.V _ (List.mem_of_getElem? hh))) htn (by rw [hgt];exact hlt)
  refine qM rfl rfl rfl rfl rfl rfl κ'44 (sp_15) Ts ?_
  rintro ⟨wa,wc⟩ hpw
  try simp only [List.cons_append,List.nil_append]
  refine qV (qS (qW [] (e':=[]) rfl ?_))
  refine qQ (qG (qC (.q 0 (.done)) Kr ?_))
  refine qR rfl rfl rfl rfl (qS (qQ (qJ ?_)))
  have hF:(feF x k ((t:Nat):Int) ((o:Nat):Int))=⟨⟨nxF x.v.ck k ((t:Nat):Int) ((o:Nat):Int),(upd x.v.th ((t:Nat):Int) (some (icL l t))),(upd x.v.lk ((o:Nat):Int) (some l)),x.v.vo,x.v.rd⟩,x.vs,x.cost⟩:=(by rw [fe_no hv Om Om,vn6 hth k6];(try simp only [Int.toNat_natCast]))
  refine rf_fold (b:=b) (M:=((M++[(qa,qc,(jndL h.2.2 ([])))])++[(wa,wc,(withL h.2.2 t (h.2.2.getD t 0+1)))])) (feF x k ((t:Nat):Int) ((o:Nat):Int)) ⟨(r.V.set t (wa,wc,(withL h.2.2 t (h.2.2.getD t 0+1)))),(r.L.set o ((qa,qc,(jndL h.2.2 ([]))):H)),r.O,r.R,r.X⟩ (pa:=pa) (pc:=pc) (cb:=cb) (Va:=Va) (Vc:=Vc) (La:=La) (Lc:=Lc) (Oa:=Oa) (Oc:=Oc) (Ra:=Ra) (Rc:=Rc) (Xa:=Xa) (Xc:=Xc) Ts rfl (by first | rfl | simp) (by first | rfl | simp) (by first | rfl | simp) (by first | rfl | simp) (by first | rfl | simp) (fe_ck hv).symm (by rw [hF]) (by rw [hF];exact rel_iff.2 ⟨(relA_V (relA_L (relA_next hA _ _ _) (ok_jnd ho ok_nil) (by rw [tr_jnd ho ok_nil,htl];exact jn_mg (m:=none) hlc (fun _ h_=>(by cases h_)))) (ok_with ho htn Om (by rw [hgt];omega)) (by rw [tr_more ho htn (by rw [hgt];exact hlt),htl])),relR_keep hB hx.v.ck hc Om⟩) (pool_V (poolA_app (pool_L (poolA_app hP) hpq)) hpw) ?_
  refine cR rfl rfl (((M++[(qa,qc,(jndL h.2.2 ([])))])++[(wa,wc,(withL h.2.2 t (h.2.2.getD t 0+1)))])) (by rw [feE,if_pos hv]) (by exact fun q_ h_=>List.mem_append_left _ (List.mem_append_left _ h_)) ?_
  exact Tf
 refine qG (qC (.q 0 (.q 1 (.done))) Kr ?_)
 refine qN rfl rfl rfl rfl rfl (cS _ _ _ _) ?_
 refine qR rfl rfl rfl rfl (qS (qQ ?_))
 refine qB rfl (fun k3=>?_) (fun k3=>?_)
 ·
  obtain ⟨o5,o7,o9,o10,o11⟩:=can_obj hx.v.ck hc
  have hsh:=hx.v.ck.sh
  rw [Int.toNat_natCast] at o5 o7 o9
  have hor:0≤(o:Int)∧okK x.v.ck k ((t:Nat):Int) ((o:Nat):Int):=by
    rcases hc with ⟨-,q_,-⟩ | ⟨-,q_⟩
    · omega
    · exact q_
  unfold okK at hor
  obtain ⟨g,hg_⟩:=cP (l:=r.O) (i:=o) Om
  obtain ⟨hgo,hgt2⟩:=hR.O o g hg_
  have hgl:=hgo.1
  refine kX rfl (.q 0 (.q 1 (.q 2 (.q 3 (.q 4 (.q 5 (.q 6 (.q 7 (.q 8 (.q 9 (.q 10 (.q 11 (.q 12 (.q 13 (.q 14 (.q 15 (.q 16 (.q 17 (.q 18 (.q 19 ((.l 20 [3] (.q 21 ((.l 22 [] (.done)))))))))))))))))))))))))) Kr ?_
  refine qK rfl rfl rfl rfl (qX rfl rfl rfl rfl (qL (k:=1) rfl rfl rfl rfl υ'97 rfl ζ'66 rfl ?_))
  refine qP (j:=1) rfl rfl rfl rfl α'66 Tk Az (by rfl) ?_
  refine qK rfl rfl rfl rfl (qK rfl rfl rfl rfl (qX rfl rfl rfl rfl (qL (k:=1) rfl rfl rfl rfl υ'97 rfl ζ'66 rfl ?_)))
  refine qP (j:=1) rfl rfl rfl rfl α'66 Tk Az (by rfl) ?_
  refine qK rfl rfl rfl rfl (kY (sz:=0) (k:=t) (enc:=encH) (xs:=r.V) rfl rfl rfl rfl rfl υ'66 ζ'50 hh (by first | rfl | omega) Om Tk ?_)
  intro ib134 io134 ha134 hl134 hc134
  refine kQ (v:=(.slice h.1 h.2.2.length h.2.1)) (j:=0) (k':=t) (enc:=encH) (off:=io134) rfl rfl rfl rfl α'50 ha134 kD hh Tk (by first | rfl | exact (Nat.add_zero _).symm | omega) (by rfl) ?_
  refine qK rfl rfl rfl rfl (qX rfl rfl rfl rfl (qL (k:=3) rfl rfl rfl rfl υ'97 rfl ζ'66 rfl ?_))
  refine qP (j:=3) rfl rfl rfl rfl α'66 Tk Az (by rfl) ?_
  refine qL (k:=2) rfl rfl rfl rfl υ'36 rfl ζ'3 rfl ?_
  refine qP (j:=2) rfl rfl rfl rfl α'3 Tk Az (by rfl) ?_
  refine kY (sz:=0) (k:=o) (enc:=encH) (xs:=r.O) rfl rfl rfl rfl rfl υ'66 ζ'50 hg_ (by first | rfl | omega) Om Tk ?_
  intro ib142 io142 ha142 hl142 hc142
  refine kQ (v:=(.slice g.1 g.2.2.length g.2.1)) (j:=0) (k':=o) (enc:=encH) (off:=io142) rfl rfl rfl rfl α'50 ha142 kD hg_ Tk (by first | rfl | exact (Nat.add_zero _).symm | omega) (by rfl) ?_
  have sp_16:=Fr.joined_spec h.2.2 g.2.2 h.1 g.1 h.2.2.length g.2.2.length h.2.1 g.2.1 (bigS (owA 1 encU) M) (inp_rds (hP.V _ (List.mem_of_getElem? hh))) (inp_rds (hP.O _ (List.mem_of_getElem? hg_))) Ln Ln Om Om
  refine qM rfl rfl rfl rfl rfl rfl κ'41 (sp_16) Ts ?_
  rintro ⟨qa,qc⟩ -
  try simp only [List.cons_append,List.nil_append]
  refine s_pool (ao:=qa) (cap:=qc) (l:=(jndL h.2.2 g.2.2)) (M:=M) Ts fun hpq=>?_
  try simp only [List.cons_append,List.nil_append]
  refine qH (q:=1) rfl rfl rfl α'66 Tk Az (by rfl) ?_
  refine qV (kY (sz:=0) (k:=t) (enc:=encH) (xs:=r.V) rfl rfl rfl rfl rfl υ'66 ζ'50 hh (by first | rfl | omega) Om Tk ?_)
  intro ib145 io145 ha145 hl145 hc145
  refine kJ (j:=0) (k:=t) (q:=((qa,qc,(jndL h.2.2 g.2.2)):H)) (enc:=encH) (off:=io145) rfl rfl rfl rfl ζ'50 (us:=[_]) rfl rfl rfl ha145 kD hh Tk (by first | rfl | exact (Nat.add_zero _).symm | omega) (by first | decide | exact Nat.le_of_ble_eq_true rfl) (by rfl) ?_
  refine qV (qS (qW [0,3,5] (e':=[(0,_),(3,_),(5,_)]) rfl ?_))
  refine kK (qQ (qG (qG (qC (.q 0 (.q 1 ((.l 2 [] (.done))))) Kr ?_))))
  refine qL (k:=0) rfl rfl rfl rfl υ'36 rfl ζ'34 rfl ?_
  refine qP (j:=0) rfl rfl rfl rfl α'34 Tk Az (by rfl) ?_
  have sp_17:=rreleases_spec k
  refine qM rfl rfl rfl rfl rfl rfl κ'34 (sp_17) Ts ?_
  rintro ⟨⟩ -
  try simp only [List.cons_append,List.nil_append]
  refine qV (qS (qQ ?_))
  refine qB rfl (fun hg=>by exfalso;unfold relK at hg;omega) (fun hg=>?_)
  refine qF (qQ (qG (qC (.q 0 (.done)) Kr ?_)))
  refine qR rfl rfl rfl rfl (qS (qW [4] (e':=[(4,_)]) rfl ?_))
  refine qQ (qJ ?_)
  have hF:(feF x k ((t:Nat):Int) ((o:Nat):Int))=⟨⟨nxF x.v.ck k ((t:Nat):Int) ((o:Nat):Int),(upd x.v.th ((t:Nat):Int) (some (mgF (x.v.vo ((o:Nat):Int)) l))),x.v.lk,x.v.vo,x.v.rd⟩,x.vs,x.cost⟩:=(by rw [fe_no hv Om Om,vn3 hth k3])
  refine rf_fold (b:=b) (M:=(M++[(qa,qc,(jndL h.2.2 g.2.2))])) (feF x k ((t:Nat):Int) ((o:Nat):Int)) ⟨(r.V.set t ((qa,qc,(jndL h.2.2 g.2.2)):H)),r.L,r.O,r.R,r.X⟩ (pa:=pa) (pc:=pc) (cb:=cb) (Va:=Va) (Vc:=Vc) (La:=La) (Lc:=Lc) (Oa:=Oa) (Oc:=Oc) (Ra:=Ra) (Rc:=Rc) (Xa:=Xa) (Xc:=Xc) Ts rfl (by first | rfl | simp) (by first | rfl | simp) (by first | rfl | simp) (by first | rfl | simp) (by first | rfl | simp) (fe_ck hv).symm (by rw [hF]) (by rw [hF];exact rel_iff.2 ⟨(relA_V (relA_next hA _ _ _) (ok_jnd ho hgo) (by rw [tr_jnd ho hgo,htl,hgt2];exact jn_mg hlc (hx.v.voc _))),relR_keep hB hx.v.ck hc Om⟩) (pool_V (poolA_app hP) hpq) ?_
  refine cR rfl rfl ((M++[(qa,qc,(jndL h.2.2 g.2.2))])) (by rw [feE,if_pos hv]) (by exact fun q_ h_=>List.mem_append_left _ h_) ?_
  exact Tf
 refine qG (qC (.q 0 (.q 1 (.done))) Kr ?_)
 refine qN rfl rfl rfl rfl rfl (cS _ _ _ _) ?_
 refine qR rfl rfl rfl rfl (qS (qW [0,3,5,6,64,146] (e':=[(0,_),(3,_),(5,_),(6,_),(64,_),(146,_)]) rfl ?_))
 refine qQ ?_
 refine qB rfl (fun k4=>?_) (fun k4=>?_)
 ·
  obtain ⟨o5,o7,o9,o10,o11⟩:=can_obj hx.v.ck hc
  have hsh:=hx.v.ck.sh
  rw [Int.toNat_natCast] at o5 o7 o9
  have hor:0≤(o:Int)∧okK x.v.ck k ((t:Nat):Int) ((o:Nat):Int):=by
    rcases hc with ⟨-,q_,-⟩ | ⟨-,q_⟩
    · omega
    · exact q_
  unfold okK at hor
  have hlt:l.getD t 0 < maxC:=by
    have h9:=hv.2 (by unfold relK;omega)
    rw [thF_eq hth,Int.toNat_natCast] at h9;exact h9
  obtain ⟨g,hg_⟩:=cP (l:=r.O) (i:=o) Om
  obtain ⟨hgo,hgt2⟩:=hR.O o g hg_
  have hgl:=hgo.1
  refine kX rfl (.q 0 (.q 1 (.q 2 (.q 3 (.q 4 (.q 5 (.q 6 (.q 7 (.q 8 (.q 9 (.q 10 (.q 11 (.q 12 (.q 13 (.q 14 (.q 15 (.q 16 (.q 17 (.q 18 (.q 19 (.q 20 ((.l 21 [3,5] (.q 22 ((.l 23 [] (.done))))))))))))))))))))))))))) Kr ?_
  refine qK rfl rfl rfl rfl (qX rfl rfl rfl rfl (qL (k:=3) rfl rfl rfl rfl υ'97 rfl ζ'66 rfl ?_))
  refine qP (j:=3) rfl rfl rfl rfl α'66 Tk Az (by rfl) ?_
  refine qL (k:=2) rfl rfl rfl rfl υ'36 rfl ζ'3 rfl ?_
  refine qP (j:=2) rfl rfl rfl rfl α'3 Tk Az (by rfl) ?_
  refine qK rfl rfl rfl rfl (qX rfl rfl rfl rfl (qL (k:=3) rfl rfl rfl rfl υ'97 rfl ζ'66 rfl ?_))
  refine qP (j:=3) rfl rfl rfl rfl α'66 Tk Az (by rfl) ?_
  refine qL (k:=2) rfl rfl rfl rfl υ'36 rfl ζ'3 rfl ?_
  refine qP (j:=2) rfl rfl rfl rfl α'3 Tk Az (by rfl) ?_
  refine kY (sz:=0) (k:=o) (enc:=encH) (xs:=r.O) rfl rfl rfl rfl rfl υ'66 ζ'50 hg_ (by first | rfl | omega) Om Tk ?_
  intro ib160 io160 ha160 hl160 hc160
  refine kQ (v:=(.slice g.1 g.2.2.length g.2.1)) (j:=0) (k':=o) (enc:=encH) (off:=io160) rfl rfl rfl rfl α'50 ha160 kD hg_ Tk (by first | rfl | exact (Nat.add_zero _).symm | omega) (by rfl) ?_
  refine qK rfl rfl rfl rfl (qX rfl rfl rfl rfl (qL (k:=1) rfl rfl rfl rfl υ'97 rfl ζ'66 rfl ?_))
  refine qP (j:=1) rfl rfl rfl rfl α'66 Tk Az (by rfl) ?_
  refine qK rfl rfl rfl rfl (kY (sz:=0) (k:=t) (enc:=encH) (xs:=r.V) rfl rfl rfl rfl rfl υ'66 ζ'50 hh (by first | rfl | omega) Om Tk ?_)
  intro ib167 io167 ha167 hl167 hc167
  refine kQ (v:=(.slice h.1 h.2.2.length h.2.1)) (j:=0) (k':=t) (enc:=encH) (off:=io167) rfl rfl rfl rfl α'50 ha167 kD hh Tk (by first | rfl | exact (Nat.add_zero _).symm | omega) (by rfl) ?_
  have sp_18:=Fr.joined_spec g.2.2 h.2.2 g.1 h.1 g.2.2.length h.2.2.length g.2.1 h.2.1 (bigS (owA 1 encU) M) (inp_rds (hP.O _ (List.mem_of_getElem? hg_))) (inp_rds (hP.V _ (List.mem_of_getElem? hh))) Ln Ln Om Om
  refine qM rfl rfl rfl rfl rfl rfl κ'41 (sp_18) Ts ?_
  rintro ⟨qa,qc⟩ -
  try simp only [List.cons_append,List.nil_append]
  refine s_pool (ao:=qa) (cap:=qc) (l:=(jndL g.2.2 h.2.2)) (M:=M) Ts fun hpq=>?_
  try simp only [List.cons_append,List.nil_append]
  refine qH (q:=3) rfl rfl rfl α'66 Tk Az (by rfl) ?_
  refine qH (q:=2) rfl rfl rfl α'3 Tk Az (by rfl) ?_
  refine qV (kY (sz:=0) (k:=o) (enc:=encH) (xs:=r.O) rfl rfl rfl rfl rfl υ'66 ζ'50 hg_ (by first | rfl | omega) Om Tk ?_)
  intro ib170 io170 ha170 hl170 hc170
  refine kJ (j:=0) (k:=o) (q:=((qa,qc,(jndL g.2.2 h.2.2)):H)) (enc:=encH) (off:=io170) rfl rfl rfl rfl ζ'50 (us:=[_]) rfl rfl rfl ha170 kD hg_ Tk (by first | rfl | exact (Nat.add_zero _).symm | omega) (by first | decide | exact Nat.le_of_ble_eq_true rfl) (by rfl) ?_
  refine qV (qS (qW [0,3,5] (e':=[(0,_),(3,_),(5,_)]) rfl ?_))
  refine kK (qQ (qG (qG (qC (.q 0 (.q 1 ((.l 2 [] (.done))))) Kr ?_))))
  refine qL (k:=0) rfl rfl rfl rfl υ'36 rfl ζ'34 rfl ?_
  refine qP (j:=0) rfl rfl rfl rfl α'34 Tk Az (by rfl) ?_
  have sp_19:=rreleases_spec k
  refine qM rfl rfl rfl rfl rfl rfl κ'34 (sp_19) Ts ?_
  rintro ⟨⟩ -
  try simp only [List.cons_append,List.nil_append]
  refine qV (qS (qQ ?_))
  refine qB rfl (fun hg=>?_) (fun hg=>by exfalso;exact hg (by unfold relK;omega))
  refine qC (.q 0 (.q 1 ((.l 2 [] (.done))))) Kr ?_
  refine qK rfl rfl rfl rfl (qK rfl rfl rfl rfl ?_)
  have sp_20:=more_spec b r.V.length Vc t (.pointer (some ⟨cb,0,none⟩)) (.slice La r.L.length Lc) (.slice Oa r.O.length Oc) (.slice Ra r.R.length Rc) (.slice Xa r.X.length Xc) (.int .i64 x.cost) Va r.V (M++[(qa,qc,(jndL g.2.2 h.2.2))]) h (by simp) hh ho (inp_add (hP.V _ (List.mem_of_getElem? hh))) htn (by rw [hgt];exact hlt)
  refine qM rfl rfl rfl rfl rfl rfl κ'44 (sp_20) Ts ?_
  rintro ⟨wa,wc⟩ hpw
  try simp only [List.cons_append,List.nil_append]
  refine qV (qS (qW [] (e':=[]) rfl ?_))
  refine qQ (qG (qC (.q 0 (.done)) Kr ?_))
  refine qR rfl rfl rfl rfl (qS (qQ (qJ ?_)))
  have hF:(feF x k ((t:Nat):Int) ((o:Nat):Int))=⟨⟨nxF x.v.ck k ((t:Nat):Int) ((o:Nat):Int),(upd x.v.th ((t:Nat):Int) (some (icL l t))),x.v.lk,(upd x.v.vo ((o:Nat):Int) (some (mgF (x.v.vo ((o:Nat):Int)) l))),x.v.rd⟩,x.vs,x.cost⟩:=(by rw [fe_no hv Om Om,vn4 hth k4];(try simp only [Int.toNat_natCast]))
  refine rf_fold (b:=b) (M:=((M++[(qa,qc,(jndL g.2.2 h.2.2))])++[(wa,wc,(withL h.2.2 t (h.2.2.getD t 0+1)))])) (feF x k ((t:Nat):Int) ((o:Nat):Int)) ⟨(r.V.set t (wa,wc,(withL h.2.2 t (h.2.2.getD t 0+1)))),r.L,(r.O.set o ((qa,qc,(jndL g.2.2 h.2.2)):H)),r.R,r.X⟩ (pa:=pa) (pc:=pc) (cb:=cb) (Va:=Va) (Vc:=Vc) (La:=La) (Lc:=Lc) (Oa:=Oa) (Oc:=Oc) (Ra:=Ra) (Rc:=Rc) (Xa:=Xa) (Xc:=Xc) Ts rfl (by first | rfl | simp) (by first | rfl | simp) (by first | rfl | simp) (by first | rfl | simp) (by first | rfl | simp) (fe_ck hv).symm (by rw [hF]) (by rw [hF];exact rel_iff.2 ⟨(relA_V (relA_O (relA_next hA _ _ _) (ok_jnd hgo ho) (by rw [tr_jnd hgo ho,htl,hgt2];exact mg_jn hlc (hx.v.voc _))) (ok_with ho htn Om (by rw [hgt];omega)) (by rw [tr_more ho htn (by rw [hgt];exact hlt),htl])),relR_keep hB hx.v.ck hc Om⟩) (pool_V (poolA_app (pool_O (poolA_app hP) hpq)) hpw) ?_
  refine cR rfl rfl (((M++[(qa,qc,(jndL g.2.2 h.2.2))])++[(wa,wc,(withL h.2.2 t (h.2.2.getD t 0+1)))])) (by rw [feE,if_pos hv]) (by exact fun q_ h_=>List.mem_append_left _ (List.mem_append_left _ h_)) ?_
  exact Tf
 refine qG (qC (.q 0 (.q 1 (.done))) Kr ?_)
 refine qN rfl rfl rfl rfl rfl (cS _ _ _ _) ?_
 refine qR rfl rfl rfl rfl (qS (qQ ?_))
 refine qB rfl (fun k7=>?_) (fun k7=>?_)
 ·
  obtain ⟨o5,o7,o9,o10,o11⟩:=can_obj hx.v.ck hc
  have hsh:=hx.v.ck.sh
  rw [Int.toNat_natCast] at o5 o7 o9
  have hlt:l.getD t 0 < maxC:=by
    have h9:=hv.2 (by unfold relK;omega)
    rw [thF_eq hth,Int.toNat_natCast] at h9;exact h9
  obtain ⟨g,hg_⟩:=cP (l:=r.V) (i:=o) Om
  obtain ⟨hgo,hgt2⟩:=hR.V o g hg_
  have hgl:=hgo.1
  obtain ⟨p0,p1,p2⟩:=o7 k7
  have hon:o < 65535:=by have:=hsh.th;omega
  have hot:o≠t:=by intro e;rw [e] at p2;exact can_th hc p2
  have hyl:=(ok_jnd ho ok_nil).1
  refine kX rfl (.q 0 (.q 1 (.q 2 (.q 3 (.q 4 (.q 5 (.q 6 (.q 7 (.q 8 (.q 9 (.q 10 (.q 11 (.q 12 (.q 14 (.q 15 ((.l 13 [3,5,15] ((.l 16 [3,5] (.q 17 ((.l 18 [] (.done))))))))))))))))))))))) Kr ?_
  refine qK rfl rfl rfl rfl (qX rfl rfl rfl rfl (qL (k:=1) rfl rfl rfl rfl υ'97 rfl ζ'66 rfl ?_))
  refine qP (j:=1) rfl rfl rfl rfl α'66 Tk Az (by rfl) ?_
  refine qL (k:=2) rfl rfl rfl rfl υ'36 rfl ζ'3 rfl ?_
  refine qP (j:=2) rfl rfl rfl rfl α'3 Tk Az (by rfl) ?_
  refine qK rfl rfl rfl rfl (qX rfl rfl rfl rfl (qL (k:=1) rfl rfl rfl rfl υ'97 rfl ζ'66 rfl ?_))
  refine qP (j:=1) rfl rfl rfl rfl α'66 Tk Az (by rfl) ?_
  refine qK rfl rfl rfl rfl (kY (sz:=0) (k:=t) (enc:=encH) (xs:=r.V) rfl rfl rfl rfl rfl υ'66 ζ'50 hh (by first | rfl | omega) Om Tk ?_)
  intro ib184 io184 ha184 hl184 hc184
  refine kQ (v:=(.slice h.1 h.2.2.length h.2.1)) (j:=0) (k':=t) (enc:=encH) (off:=io184) rfl rfl rfl rfl α'50 ha184 kD hh Tk (by first | rfl | exact (Nat.add_zero _).symm | omega) (by rfl) ?_
  refine qL (k:=2) rfl rfl rfl rfl υ'36 rfl ζ'3 rfl ?_
  refine qP (j:=2) rfl rfl rfl rfl α'3 Tk Az (by rfl) ?_
  have sp_21:=Fr.joined_spec h.2.2 ([]) h.1 none h.2.2.length 0 h.2.1 0 (bigS (owA 1 encU) M) (inp_rds (hP.V _ (List.mem_of_getElem? hh))) (.inl rfl) Ln Ln Om Om
  refine qM rfl rfl rfl rfl rfl rfl κ'41 (sp_21) Ts ?_
  rintro ⟨ya,yc⟩ -
  try simp only [List.cons_append,List.nil_append]
  refine qH (q:=1) rfl rfl rfl α'66 Tk Az (by rfl) ?_
  refine qH (q:=2) rfl rfl rfl α'3 Tk Az (by rfl) ?_
  refine qH (q:=2) rfl rfl rfl α'3 Tk Az (by rfl) ?_
  refine qV (cK (A:=own 1 encU ya yc (jndL h.2.2 ([]))) Tk ?_)
  refine rQ fun f_22a f_22b f_22c=>?_
  have sp_23:=Fr.with_spec (jndL h.2.2 ([])) ya ((jndL h.2.2 ([])).length) yc (own 1 encU ya yc (jndL h.2.2 ([]))) (sD encU_len (fun h=>(f_22b h).1) f_22c) Ln Om o 1 Om
  refine qM rfl rfl rfl rfl rfl rfl κ'42 (sp_23) Ts ?_
  rintro ⟨qa,qc⟩ -
  try simp only [List.cons_append,List.nil_append]
  refine s_pool (ao:=qa) (cap:=qc) (l:=(withL (jndL h.2.2 ([])) o 1)) (M:=M) Ts fun hpq=>?_
  try simp only [List.cons_append,List.nil_append]
  refine qH (q:=1) rfl rfl rfl α'66 Tk Az (by rfl) ?_
  refine qH (q:=2) rfl rfl rfl α'3 Tk Az (by rfl) ?_
  refine qV (kY (sz:=0) (k:=o) (enc:=encH) (xs:=r.V) rfl rfl rfl rfl rfl υ'66 ζ'50 hg_ (by first | rfl | omega) Om Tk ?_)
  intro ib190 io190 ha190 hl190 hc190
  refine kJ (j:=0) (k:=o) (q:=((qa,qc,(withL (jndL h.2.2 ([])) o 1)):H)) (enc:=encH) (off:=io190) rfl rfl rfl rfl ζ'50 (us:=[_]) rfl rfl rfl ha190 kD hg_ Tk (by first | rfl | exact (Nat.add_zero _).symm | omega) (by first | decide | exact Nat.le_of_ble_eq_true rfl) (by rfl) ?_
  refine qV (qS (qW [0,3,5] (e':=[(0,_),(3,_),(5,_)]) rfl ?_))
  refine kK (qQ (qG (qG (qC (.q 0 (.q 1 ((.l 2 [] (.done))))) Kr ?_))))
  refine qL (k:=0) rfl rfl rfl rfl υ'36 rfl ζ'34 rfl ?_
  refine qP (j:=0) rfl rfl rfl rfl α'34 Tk Az (by rfl) ?_
  have sp_24:=rreleases_spec k
  refine qM rfl rfl rfl rfl rfl rfl κ'34 (sp_24) Ts ?_
  rintro ⟨⟩ -
  try simp only [List.cons_append,List.nil_append]
  refine qV (qS (qQ ?_))
  refine qB rfl (fun hg=>?_) (fun hg=>by exfalso;exact hg (by unfold relK;omega))
  refine qC (.q 0 (.q 1 ((.l 2 [] (.done))))) Kr ?_
  refine qK rfl rfl rfl rfl (qK rfl rfl rfl rfl ?_)
  have sp_25:=more_spec b r.V.length Vc t (.pointer (some ⟨cb,0,none⟩)) (.slice La r.L.length Lc) (.slice Oa r.O.length Oc) (.slice Ra r.R.length Rc) (.slice Xa r.X.length Xc) (.int .i64 x.cost) Va (r.V.set o ((qa,qc,(withL (jndL h.2.2 ([])) o 1)):H)) (M++[(qa,qc,(withL (jndL h.2.2 ([])) o 1))]) h (by simp) (by rw [List.getElem?_set_ne hot];exact hh) ho (inp_add (hP.V _ (List.mem_of_getElem? hh))) htn (by rw [hgt];exact hlt)
  refine qM rfl rfl rfl rfl rfl rfl κ'44 (sp_25) Ts ?_
  rintro ⟨wa,wc⟩ hpw
  try simp only [List.cons_append,List.nil_append]
  refine qV (qS (qW [] (e':=[]) rfl ?_))
  refine qQ (qG (qC (.q 0 (.done)) Kr ?_))
  refine qR rfl rfl rfl rfl (qS (qQ (qJ ?_)))
  have hF:(feF x k ((t:Nat):Int) ((o:Nat):Int))=⟨⟨nxF x.v.ck k ((t:Nat):Int) ((o:Nat):Int),(upd (upd x.v.th ((o:Nat):Int) (some (stL l o 1))) ((t:Nat):Int) (some (icL l t))),x.v.lk,x.v.vo,x.v.rd⟩,x.vs,x.cost⟩:=(by rw [fe_no hv Om Om,vn7 hth k7];(try simp only [Int.toNat_natCast]))
  refine rf_fold (b:=b) (M:=((M++[(qa,qc,(withL (jndL h.2.2 ([])) o 1))])++[(wa,wc,(withL h.2.2 t (h.2.2.getD t 0+1)))])) (feF x k ((t:Nat):Int) ((o:Nat):Int)) ⟨((r.V.set o ((qa,qc,(withL (jndL h.2.2 ([])) o 1)):H)).set t (wa,wc,(withL h.2.2 t (h.2.2.getD t 0+1)))),r.L,r.O,r.R,r.X⟩ (pa:=pa) (pc:=pc) (cb:=cb) (Va:=Va) (Vc:=Vc) (La:=La) (Lc:=Lc) (Oa:=Oa) (Oc:=Oc) (Ra:=Ra) (Rc:=Rc) (Xa:=Xa) (Xc:=Xc) Ts rfl (by first | rfl | simp) (by first | rfl | simp) (by first | rfl | simp) (by first | rfl | simp) (by first | rfl | simp) (fe_ck hv).symm (by rw [hF]) (by rw [hF];exact rel_iff.2 ⟨(relA_V (relA_V (relA_next hA _ _ _) (ok_with (ok_jnd ho ok_nil) hon (by decide) (by decide)) (by rw [tr_with (ok_jnd ho ok_nil) hon (by decide) (by decide)];exact congrArg (fun q_=>stL q_ o 1) (by rw [tr_jnd ho ok_nil,htl];exact jn_mg (m:=none) hlc (fun _ h_=>(by cases h_))))) (ok_with ho htn Om (by rw [hgt];omega)) (by rw [tr_more ho htn (by rw [hgt];exact hlt),htl])),relR_keep hB hx.v.ck hc Om⟩) (pool_V (poolA_app (pool_V (poolA_app hP) hpq)) hpw) ?_
  refine cR rfl rfl (((M++[(qa,qc,(withL (jndL h.2.2 ([])) o 1))])++[(wa,wc,(withL h.2.2 t (h.2.2.getD t 0+1)))])) (by rw [feE,if_pos hv]) (by exact fun q_ h_=>List.mem_append_left _ (List.mem_append_left _ h_)) ?_
  exact Tf
 refine qG (qC (.q 0 (.q 1 (.done))) Kr ?_)
 refine qN rfl rfl rfl rfl rfl (cS _ _ _ _) ?_
 refine qR rfl rfl rfl rfl (qS (qW [0,3,5,6,64,191] (e':=[(0,_),(3,_),(5,_),(6,_),(64,_),(191,_)]) rfl ?_))
 refine qQ ?_
 refine qB rfl (fun k8=>?_) (fun k8=>?_)
 ·
  obtain ⟨o5,o7,o9,o10,o11⟩:=can_obj hx.v.ck hc
  have hsh:=hx.v.ck.sh
  rw [Int.toNat_natCast] at o5 o7 o9
  have hor:0≤(o:Int)∧okK x.v.ck k ((t:Nat):Int) ((o:Nat):Int):=by
    rcases hc with ⟨-,q_,-⟩ | ⟨-,q_⟩
    · omega
    · exact q_
  unfold okK at hor
  obtain ⟨g,hg_⟩:=cP (l:=r.V) (i:=o) Om
  obtain ⟨hgo,hgt2⟩:=hR.V o g hg_
  have hgl:=hgo.1
  refine kX rfl (.q 0 (.q 1 (.q 2 (.q 3 (.q 4 (.q 5 (.q 6 (.q 7 (.q 8 (.q 9 (.q 10 (.q 11 (.q 12 (.q 13 (.q 14 (.q 15 (.q 16 (.q 17 (.q 18 (.q 19 ((.l 20 [3] (.q 21 ((.l 22 [] (.done)))))))))))))))))))))))))) Kr ?_
  refine qK rfl rfl rfl rfl (qX rfl rfl rfl rfl (qL (k:=1) rfl rfl rfl rfl υ'97 rfl ζ'66 rfl ?_))
  refine qP (j:=1) rfl rfl rfl rfl α'66 Tk Az (by rfl) ?_
  refine qK rfl rfl rfl rfl (qK rfl rfl rfl rfl (qX rfl rfl rfl rfl (qL (k:=1) rfl rfl rfl rfl υ'97 rfl ζ'66 rfl ?_)))
  refine qP (j:=1) rfl rfl rfl rfl α'66 Tk Az (by rfl) ?_
  refine qK rfl rfl rfl rfl (kY (sz:=0) (k:=t) (enc:=encH) (xs:=r.V) rfl rfl rfl rfl rfl υ'66 ζ'50 hh (by first | rfl | omega) Om Tk ?_)
  intro ib203 io203 ha203 hl203 hc203
  refine kQ (v:=(.slice h.1 h.2.2.length h.2.1)) (j:=0) (k':=t) (enc:=encH) (off:=io203) rfl rfl rfl rfl α'50 ha203 kD hh Tk (by first | rfl | exact (Nat.add_zero _).symm | omega) (by rfl) ?_
  refine qK rfl rfl rfl rfl (qX rfl rfl rfl rfl (qL (k:=1) rfl rfl rfl rfl υ'97 rfl ζ'66 rfl ?_))
  refine qP (j:=1) rfl rfl rfl rfl α'66 Tk Az (by rfl) ?_
  refine qL (k:=2) rfl rfl rfl rfl υ'36 rfl ζ'3 rfl ?_
  refine qP (j:=2) rfl rfl rfl rfl α'3 Tk Az (by rfl) ?_
  refine kY (sz:=0) (k:=o) (enc:=encH) (xs:=r.V) rfl rfl rfl rfl rfl υ'66 ζ'50 hg_ (by first | rfl | omega) Om Tk ?_
  intro ib211 io211 ha211 hl211 hc211
  refine kQ (v:=(.slice g.1 g.2.2.length g.2.1)) (j:=0) (k':=o) (enc:=encH) (off:=io211) rfl rfl rfl rfl α'50 ha211 kD hg_ Tk (by first | rfl | exact (Nat.add_zero _).symm | omega) (by rfl) ?_
  have sp_26:=Fr.joined_spec h.2.2 g.2.2 h.1 g.1 h.2.2.length g.2.2.length h.2.1 g.2.1 (bigS (owA 1 encU) M) (inp_rds (hP.V _ (List.mem_of_getElem? hh))) (inp_rds (hP.V _ (List.mem_of_getElem? hg_))) Ln Ln Om Om
  refine qM rfl rfl rfl rfl rfl rfl κ'41 (sp_26) Ts ?_
  rintro ⟨qa,qc⟩ -
  try simp only [List.cons_append,List.nil_append]
  refine s_pool (ao:=qa) (cap:=qc) (l:=(jndL h.2.2 g.2.2)) (M:=M) Ts fun hpq=>?_
  try simp only [List.cons_append,List.nil_append]
  refine qH (q:=1) rfl rfl rfl α'66 Tk Az (by rfl) ?_
  refine qV (kY (sz:=0) (k:=t) (enc:=encH) (xs:=r.V) rfl rfl rfl rfl rfl υ'66 ζ'50 hh (by first | rfl | omega) Om Tk ?_)
  intro ib214 io214 ha214 hl214 hc214
  refine kJ (j:=0) (k:=t) (q:=((qa,qc,(jndL h.2.2 g.2.2)):H)) (enc:=encH) (off:=io214) rfl rfl rfl rfl ζ'50 (us:=[_]) rfl rfl rfl ha214 kD hh Tk (by first | rfl | exact (Nat.add_zero _).symm | omega) (by first | decide | exact Nat.le_of_ble_eq_true rfl) (by rfl) ?_
  refine qV (qS (qW [0,3,5] (e':=[(0,_),(3,_),(5,_)]) rfl ?_))
  refine kK (qQ (qG (qG (qC (.q 0 (.q 1 ((.l 2 [] (.done))))) Kr ?_))))
  refine qL (k:=0) rfl rfl rfl rfl υ'36 rfl ζ'34 rfl ?_
  refine qP (j:=0) rfl rfl rfl rfl α'34 Tk Az (by rfl) ?_
  have sp_27:=rreleases_spec k
  refine qM rfl rfl rfl rfl rfl rfl κ'34 (sp_27) Ts ?_
  rintro ⟨⟩ -
  try simp only [List.cons_append,List.nil_append]
  refine qV (qS (qQ ?_))
  refine qB rfl (fun hg=>by exfalso;unfold relK at hg;omega) (fun hg=>?_)
  refine qF (qQ (qG (qC (.q 0 (.done)) Kr ?_)))
  refine qR rfl rfl rfl rfl (qS (qW [4] (e':=[(4,_)]) rfl ?_))
  refine qQ (qJ ?_)
  have hF:(feF x k ((t:Nat):Int) ((o:Nat):Int))=⟨⟨nxF x.v.ck k ((t:Nat):Int) ((o:Nat):Int),(upd x.v.th ((t:Nat):Int) (some (mgF (x.v.th ((o:Nat):Int)) l))),x.v.lk,x.v.vo,x.v.rd⟩,x.vs,x.cost⟩:=(by rw [fe_no hv Om Om,vn8 hth k8])
  refine rf_fold (b:=b) (M:=(M++[(qa,qc,(jndL h.2.2 g.2.2))])) (feF x k ((t:Nat):Int) ((o:Nat):Int)) ⟨(r.V.set t ((qa,qc,(jndL h.2.2 g.2.2)):H)),r.L,r.O,r.R,r.X⟩ (pa:=pa) (pc:=pc) (cb:=cb) (Va:=Va) (Vc:=Vc) (La:=La) (Lc:=Lc) (Oa:=Oa) (Oc:=Oc) (Ra:=Ra) (Rc:=Rc) (Xa:=Xa) (Xc:=Xc) Ts rfl (by first | rfl | simp) (by first | rfl | simp) (by first | rfl | simp) (by first | rfl | simp) (by first | rfl | simp) (fe_ck hv).symm (by rw [hF]) (by rw [hF];exact rel_iff.2 ⟨(relA_V (relA_next hA _ _ _) (ok_jnd ho hgo) (by rw [tr_jnd ho hgo,htl,hgt2];exact jn_mg hlc (hx.v.thc _))),relR_keep hB hx.v.ck hc Om⟩) (pool_V (poolA_app hP) hpq) ?_
  refine cR rfl rfl ((M++[(qa,qc,(jndL h.2.2 g.2.2))])) (by rw [feE,if_pos hv]) (by exact fun q_ h_=>List.mem_append_left _ h_) ?_
  exact Tf
 refine qG (qC (.q 0 (.q 1 (.done))) Kr ?_)
 refine qN rfl rfl rfl rfl rfl (cS _ _ _ _) ?_
 refine qR rfl rfl rfl rfl (qS (qQ ?_))
 refine qB rfl (fun k9=>?_) (fun k9=>?_)
 ·
  refine qG ?_
  obtain ⟨o5,o7,o9,o10,o11⟩:=can_obj hx.v.ck hc
  have hsh:=hx.v.ck.sh
  rw [Int.toNat_natCast] at o5 o7 o9
  have hlt:l.getD t 0 < maxC:=by
    have h9:=hv.2 (by unfold relK;omega)
    rw [thF_eq hth,Int.toNat_natCast] at h9;exact h9
  obtain ⟨p0,p1,p2,p3⟩:=o9 k9
  obtain ⟨s0,s1,s2⟩:=stF_nz (can_th hc)
  have hst2:stF (nxF x.v.ck k ((t:Nat):Int) ((o:Nat):Int)) ((t:Nat):Int)=(2,((o:Nat):Int),(opF x.v.ck ((o:Nat):Int)).1):=by
    rw [(nxF_k hc).2.2.2.1 k9,stF_set s0 s1 rfl,if_pos rfl]
  refine qC (.q 0 (.q 1 (.q 2 (.q 3 (.q 4 ((.l 5 [] (.q 6 (.q 7 (.q 8 ((.l 9 [] ((.l 10 [] (.q 11 (.done)))))))))))))))) Kr ?_
  refine qK rfl rfl rfl rfl (qX rfl rfl rfl rfl (qL (k:=0) rfl rfl rfl rfl υ'97 rfl ζ'91 rfl ?_))
  refine qP (j:=0) rfl rfl rfl rfl α'91 Tk Az (by rfl) ?_
  refine qK rfl rfl rfl rfl ?_
  have sp_28:=Fe.rstand_spec pa pc cb (nxF x.v.ck k ((t:Nat):Int) ((o:Nat):Int)) (next_inv hx.v.ck _ _ _) ((t:Nat):Int)
  refine qM rfl rfl rfl rfl rfl rfl Try.call36 (sp_28) Ts ?_
  rintro ⟨⟩ -
  try simp only [List.cons_append,List.nil_append]
  refine qV (qK rfl rfl rfl rfl (kW rfl rfl rfl rfl rfl (kH 224 rfl (v':=.agg #[.int .i64 2,.int .i64 ((o:Nat):Int),.int .i64 ((opF x.v.ck ((o:Nat):Int)).1)]) (by rw [hst2]) ?_)))
  refine kW rfl rfl rfl rfl rfl (cF rfl rfl rfl ω'107 (zs:=[.int .i64 0,.int .i64 0,.int .i64 0]) rfl ?_)
  intro b9
  refine qV (kR (j:=0) rfl rfl rfl rfl ζ'107 (us:=[_,_,_]) rfl rfl rfl Tk Az (by first | decide | (simp;done) | omega) ?_)
  simp only [setL,List.set]
  refine qV (qR rfl rfl rfl rfl (qS (qW [0,3,5,9] (e':=[(0,_),(3,_),(5,_),(9,_)]) rfl ?_)))
  refine qQ (qG (qC (.q 0 (.q 1 (.q 2 (.q 3 (.q 4 ((.l 5 [] (.q 6 (.done))))))))) Kr ?_))
  refine qK rfl rfl rfl rfl (qL (k:=2) rfl rfl rfl rfl υ'36 rfl ζ'3 rfl ?_)
  refine qP (j:=2) rfl rfl rfl rfl α'3 Tk Az (by rfl) ?_
  refine qL (k:=2) rfl rfl rfl rfl υ'107 rfl ζ'3 rfl ?_
  refine qP (j:=2) rfl rfl rfl rfl α'3 Tk Az (by rfl) ?_
  rcases Classical.em (∃ (j:Nat) (q:RRd),r.R[j]?=some q∧q.1=((o:Nat):Int)∧q.2.1=(opF x.v.ck ((o:Nat):Int)).1) with hex | hno
  ·
   have sp_29:=round_yes b r.R.length Rc (.pointer (some ⟨cb,0,none⟩)) (.slice Va r.V.length Vc) (.slice La r.L.length Lc) (.slice Oa r.O.length Oc) (.slice Xa r.X.length Xc) (.int .i64 x.cost) Ra r.R ((o:Nat):Int) ((opF x.v.ck ((o:Nat):Int)).1) rfl Om hex
   refine qM rfl rfl rfl rfl rfl rfl Try.call43 (sp_29) Ts ?_
   rintro ri ⟨rq,hrq,hrq1,hrq2⟩
   have hril:=(List.getElem?_eq_some_iff.1 hrq).1
   try simp only [List.cons_append,List.nil_append]
   refine qV ?_
   obtain ⟨hro,-,hrp⟩:=hR.Rk rq (List.mem_of_getElem? hrq)
   have hqol:=hro.1
   have hpt:tr rq.2.2.2.2=((x.v.rd (((o:Nat):Int),(opF x.v.ck ((o:Nat):Int)).1)).map (·.1)).getD []:=by
     have h9:=hR.Rc rq (List.mem_of_getElem? hrq) (by rw [hrq1,hrq2])
     rw [hrq1,hrq2] at h9 hrp
     obtain ⟨p,hp⟩:=Option.isSome_iff_exists.1 h9
     rw [hrp p hp,hp];rfl
   refine qR rfl rfl rfl rfl (qS (qW [0,3,5,11] (e':=[(0,_),(3,_),(5,_),(11,_)]) rfl ?_))
   refine qQ (kX rfl (.q 0 (.q 1 (.q 2 (.q 3 (.q 4 (.q 5 (.q 6 (.q 7 (.q 8 (.q 9 (.q 10 (.q 11 (.q 12 (.q 13 (.q 14 (.q 15 (.q 16 (.q 17 (.q 18 (.q 19 ((.l 20 [3] (.q 21 (.q 22 ((.l 23 [] (.done))))))))))))))))))))))))))) Kr ?_)
   refine qK rfl rfl rfl rfl (qX rfl rfl rfl rfl (qL (k:=4) rfl rfl rfl rfl υ'97 rfl ζ'94 rfl ?_))
   refine qP (j:=4) rfl rfl rfl rfl α'94 Tk Az (by rfl) ?_
   refine qK rfl rfl rfl rfl (qK rfl rfl rfl rfl (qX rfl rfl rfl rfl (qL (k:=4) rfl rfl rfl rfl υ'97 rfl ζ'94 rfl ?_)))
   refine qP (j:=4) rfl rfl rfl rfl α'94 Tk Az (by rfl) ?_
   refine qK rfl rfl rfl rfl (kY (sz:=2) (k:=ri) (enc:=encR) (xs:=r.R) rfl rfl rfl rfl rfl υ'94 ζ'115 hrq (by first | rfl | omega) Om Tk ?_)
   intro ib242 io242 ha242 hl242 hc242
   refine qL (k:=2) rfl rfl rfl rfl υ'115 rfl ζ'50 rfl ?_
   refine kQ (v:=(.slice rq.2.2.1 rq.2.2.2.2.length rq.2.2.2.1)) (j:=2) (k':=ri) (enc:=encR) (off:=io242) rfl rfl rfl rfl α'50 ha242 encR_len hrq Tk (by first | rfl | exact (Nat.add_zero _).symm | omega) (by rfl) ?_
   refine qK rfl rfl rfl rfl (qX rfl rfl rfl rfl (qL (k:=1) rfl rfl rfl rfl υ'97 rfl ζ'66 rfl ?_))
   refine qP (j:=1) rfl rfl rfl rfl α'66 Tk Az (by rfl) ?_
   refine qK rfl rfl rfl rfl (kY (sz:=0) (k:=t) (enc:=encH) (xs:=r.V) rfl rfl rfl rfl rfl υ'66 ζ'50 hh (by first | rfl | omega) Om Tk ?_)
   intro ib250 io250 ha250 hl250 hc250
   refine kQ (v:=(.slice h.1 h.2.2.length h.2.1)) (j:=0) (k':=t) (enc:=encH) (off:=io250) rfl rfl rfl rfl α'50 ha250 kD hh Tk (by first | rfl | exact (Nat.add_zero _).symm | omega) (by rfl) ?_
   have sp_30:=Fr.joined_spec rq.2.2.2.2 h.2.2 rq.2.2.1 h.1 rq.2.2.2.2.length h.2.2.length rq.2.2.2.1 h.2.1 (bigS (owA 1 encU) M) (inp_rds (hP.R _ (List.mem_of_getElem? hrq))) (inp_rds (hP.V _ (List.mem_of_getElem? hh))) Ln Ln Om Om
   refine qM rfl rfl rfl rfl rfl rfl κ'41 (sp_30) Ts ?_
   rintro ⟨qa,qc⟩ -
   try simp only [List.cons_append,List.nil_append]
   refine s_pool (ao:=qa) (cap:=qc) (l:=(jndL rq.2.2.2.2 h.2.2)) (M:=M) Ts fun hpq=>?_
   try simp only [List.cons_append,List.nil_append]
   refine qH (q:=4) rfl rfl rfl α'94 Tk Az (by rfl) ?_
   refine qV (kY (sz:=2) (k:=ri) (enc:=encR) (xs:=r.R) rfl rfl rfl rfl rfl υ'94 ζ'115 hrq (by first | rfl | omega) Om Tk ?_)
   intro ib253 io253 ha253 hl253 hc253
   refine qL (k:=2) rfl rfl rfl rfl υ'115 rfl ζ'50 rfl ?_
   refine kJ (j:=2) (k:=ri) (q:=((rq.1,rq.2.1,((qa,qc,(jndL rq.2.2.2.2 h.2.2)):H)):RRd)) (enc:=encR) (off:=io253) rfl rfl rfl rfl ζ'50 (us:=[_]) rfl rfl rfl ha253 encR_len hrq Tk (by first | rfl | exact (Nat.add_zero _).symm | omega) (by first | decide | exact Nat.le_of_ble_eq_true rfl) (by rfl) ?_
   refine qV (qS (qW [0,3,5] (e':=[(0,_),(3,_),(5,_)]) rfl ?_))
   refine kK (qQ (qG (qG (qC (.q 0 (.q 1 ((.l 2 [] (.done))))) Kr ?_))))
   refine qL (k:=0) rfl rfl rfl rfl υ'36 rfl ζ'34 rfl ?_
   refine qP (j:=0) rfl rfl rfl rfl α'34 Tk Az (by rfl) ?_
   have sp_31:=rreleases_spec k
   refine qM rfl rfl rfl rfl rfl rfl κ'34 (sp_31) Ts ?_
   rintro ⟨⟩ -
   try simp only [List.cons_append,List.nil_append]
   refine qV (qS (qQ ?_))
   refine qB rfl (fun hg=>?_) (fun hg=>by exfalso;exact hg (by unfold relK;omega))
   refine qC (.q 0 (.q 1 ((.l 2 [] (.done))))) Kr ?_
   refine qK rfl rfl rfl rfl (qK rfl rfl rfl rfl ?_)
   have sp_32:=more_spec b r.V.length Vc t (.pointer (some ⟨cb,0,none⟩)) (.slice La r.L.length Lc) (.slice Oa r.O.length Oc) (.slice Ra r.R.length Rc) (.slice Xa r.X.length Xc) (.int .i64 x.cost) Va r.V (M++[(qa,qc,(jndL rq.2.2.2.2 h.2.2))]) h (by simp) hh ho (inp_add (hP.V _ (List.mem_of_getElem? hh))) htn (by rw [hgt];exact hlt)
   refine qM rfl rfl rfl rfl rfl rfl κ'44 (sp_32) Ts ?_
   rintro ⟨wa,wc⟩ hpw
   try simp only [List.cons_append,List.nil_append]
   refine qV (qS (qW [] (e':=[]) rfl ?_))
   refine qQ (qG (qC (.q 0 (.done)) Kr ?_))
   refine qR rfl rfl rfl rfl (qS (qQ (qJ ?_)))
   have hF:(feF x k ((t:Nat):Int) ((o:Nat):Int))=⟨⟨nxF x.v.ck k ((t:Nat):Int) ((o:Nat):Int),(upd x.v.th ((t:Nat):Int) (some (icL l t))),x.v.lk,x.v.vo,(upd x.v.rd (((o:Nat):Int),(opF x.v.ck ((o:Nat):Int)).1) (some (mgF ((x.v.rd (((o:Nat):Int),(opF x.v.ck ((o:Nat):Int)).1)).map (·.1)) l,x.v.ck.pa.getD o 0)))⟩,x.vs,x.cost⟩:=(by rw [fe_no hv Om Om,vn9 hth k9];(try simp only [Int.toNat_natCast]))
   refine rf_fold (b:=b) (M:=((M++[(qa,qc,(jndL rq.2.2.2.2 h.2.2))])++[(wa,wc,(withL h.2.2 t (h.2.2.getD t 0+1)))])) (feF x k ((t:Nat):Int) ((o:Nat):Int)) ⟨(r.V.set t (wa,wc,(withL h.2.2 t (h.2.2.getD t 0+1)))),r.L,r.O,(r.R.set ri ((rq.1,rq.2.1,((qa,qc,(jndL rq.2.2.2.2 h.2.2)):H)):RRd)),r.X⟩ (pa:=pa) (pc:=pc) (cb:=cb) (Va:=Va) (Vc:=Vc) (La:=La) (Lc:=Lc) (Oa:=Oa) (Oc:=Oc) (Ra:=Ra) (Rc:=Rc) (Xa:=Xa) (Xc:=Xc) Ts rfl (by first | rfl | simp) (by first | rfl | simp) (by first | rfl | simp) (by first | rfl | simp) (by first | rfl | simp) (fe_ck hv).symm (by rw [hF]) (by rw [hF];exact rel_iff.2 ⟨(relA_V (relA_next hA _ _ _) (ok_with ho htn Om (by rw [hgt];omega)) (by rw [tr_more ho htn (by rw [hgt];exact hlt),htl])),arr_yes hx.v.ck hB k9 hc hrq hrq1 hrq2 (ok_jnd hro ho) (by rw [tr_jnd hro ho,htl,hpt];exact mg_jn hlc (fun q_ h_=>map_fst_cv hx.v h_))⟩) (pool_V (poolA_app (pool_R (poolA_app hP) hpq)) hpw) ?_
   refine cR rfl rfl (((M++[(qa,qc,(jndL rq.2.2.2.2 h.2.2))])++[(wa,wc,(withL h.2.2 t (h.2.2.getD t 0+1)))])) (by rw [feE,if_pos hv]) (by exact fun q_ h_=>List.mem_append_left _ (List.mem_append_left _ h_)) ?_
   exact Tf
  have sp_33:=round_no b r.R.length Rc (.pointer (some ⟨cb,0,none⟩)) (.slice Va r.V.length Vc) (.slice La r.L.length Lc) (.slice Oa r.O.length Oc) (.slice Xa r.X.length Xc) (.int .i64 x.cost) Ra r.R ((o:Nat):Int) ((opF x.v.ck ((o:Nat):Int)).1) rfl Om hno
  refine qM rfl rfl rfl rfl rfl rfl Try.call43 (sp_33) Ts ?_
  rintro ⟨ra2,rc2⟩ -
  try simp only [List.cons_append,List.nil_append]
  refine qV ?_
  have hh0:h0.2.2.length=0:=rfl
  have hpt:tr []=((x.v.rd (((o:Nat):Int),(opF x.v.ck ((o:Nat):Int)).1)).map (·.1)).getD []:=by
    cases hp:x.v.rd (((o:Nat):Int),(opF x.v.ck ((o:Nat):Int)).1) with
    | none=>rfl
    | some p =>
      obtain ⟨g,hg⟩:=hR.Re _ _ p hp
      obtain ⟨j,hj⟩:=List.getElem?_of_mem hg
      exact absurd ⟨j,_,hj,rfl,rfl⟩ hno
  have hrq:(r.R++[((((o:Nat):Int),(opF x.v.ck ((o:Nat):Int)).1,h0):RRd)])[r.R.length]?=some (((o:Nat):Int),(opF x.v.ck ((o:Nat):Int)).1,h0):=by rw [List.getElem?_append_right (Nat.le_refl _),Nat.sub_self];rfl
  refine qR rfl rfl rfl rfl (qS (qW [0,3,5,11] (e':=[(0,_),(3,_),(5,_),(11,_)]) rfl ?_))
  refine qQ (kX rfl (.q 0 (.q 1 (.q 2 (.q 3 (.q 4 (.q 5 (.q 6 (.q 7 (.q 8 (.q 9 (.q 10 (.q 11 (.q 12 (.q 13 (.q 14 (.q 15 (.q 16 (.q 17 (.q 18 (.q 19 ((.l 20 [3] (.q 21 (.q 22 ((.l 23 [] (.done))))))))))))))))))))))))))) Kr ?_)
  refine qK rfl rfl rfl rfl (qX rfl rfl rfl rfl (qL (k:=4) rfl rfl rfl rfl υ'97 rfl ζ'94 rfl ?_))
  refine qP (j:=4) rfl rfl rfl rfl α'94 Tk Az (by rfl) ?_
  refine qK rfl rfl rfl rfl (qK rfl rfl rfl rfl (qX rfl rfl rfl rfl (qL (k:=4) rfl rfl rfl rfl υ'97 rfl ζ'94 rfl ?_)))
  refine qP (j:=4) rfl rfl rfl rfl α'94 Tk Az (by rfl) ?_
  refine qK rfl rfl rfl rfl (kY (sz:=2) (k:=r.R.length) (enc:=encR) (xs:=(r.R++[((((o:Nat):Int),(opF x.v.ck ((o:Nat):Int)).1,h0):RRd)])) rfl rfl rfl rfl rfl υ'94 ζ'115 hrq (by first | rfl | omega) Om Tk ?_)
  intro ib242 io242 ha242 hl242 hc242
  refine qL (k:=2) rfl rfl rfl rfl υ'115 rfl ζ'50 rfl ?_
  refine kQ (v:=(.slice h0.1 h0.2.2.length h0.2.1)) (j:=2) (k':=r.R.length) (enc:=encR) (off:=io242) rfl rfl rfl rfl α'50 ha242 encR_len hrq Tk (by first | rfl | exact (Nat.add_zero _).symm | omega) (by rfl) ?_
  refine qK rfl rfl rfl rfl (qX rfl rfl rfl rfl (qL (k:=1) rfl rfl rfl rfl υ'97 rfl ζ'66 rfl ?_))
  refine qP (j:=1) rfl rfl rfl rfl α'66 Tk Az (by rfl) ?_
  refine qK rfl rfl rfl rfl (kY (sz:=0) (k:=t) (enc:=encH) (xs:=r.V) rfl rfl rfl rfl rfl υ'66 ζ'50 hh (by first | rfl | omega) Om Tk ?_)
  intro ib250 io250 ha250 hl250 hc250
  refine kQ (v:=(.slice h.1 h.2.2.length h.2.1)) (j:=0) (k':=t) (enc:=encH) (off:=io250) rfl rfl rfl rfl α'50 ha250 kD hh Tk (by first | rfl | exact (Nat.add_zero _).symm | omega) (by rfl) ?_
  have sp_34:=Fr.joined_spec ([]:List Int) h.2.2 h0.1 h.1 h0.2.2.length h.2.2.length h0.2.1 h.2.1 (bigS (owA 1 encU) M) (.inl rfl) (inp_rds (hP.V _ (List.mem_of_getElem? hh))) Ln Ln Om Om
  refine qM rfl rfl rfl rfl rfl rfl κ'41 (sp_34) Ts ?_
  rintro ⟨qa,qc⟩ -
  try simp only [List.cons_append,List.nil_append]
  refine s_pool (ao:=qa) (cap:=qc) (l:=(jndL ([]:List Int) h.2.2)) (M:=M) Ts fun hpq=>?_
  try simp only [List.cons_append,List.nil_append]
  refine qH (q:=4) rfl rfl rfl α'94 Tk Az (by rfl) ?_
  refine qV (kY (sz:=2) (k:=r.R.length) (enc:=encR) (xs:=(r.R++[((((o:Nat):Int),(opF x.v.ck ((o:Nat):Int)).1,h0):RRd)])) rfl rfl rfl rfl rfl υ'94 ζ'115 hrq (by first | rfl | omega) Om Tk ?_)
  intro ib253 io253 ha253 hl253 hc253
  refine qL (k:=2) rfl rfl rfl rfl υ'115 rfl ζ'50 rfl ?_
  refine kJ (j:=2) (k:=r.R.length) (q:=((((o:Nat):Int),(opF x.v.ck ((o:Nat):Int)).1,((qa,qc,(jndL ([]:List Int) h.2.2)):H)):RRd)) (enc:=encR) (off:=io253) rfl rfl rfl rfl ζ'50 (us:=[_]) rfl rfl rfl ha253 encR_len hrq Tk (by first | rfl | exact (Nat.add_zero _).symm | omega) (by first | decide | exact Nat.le_of_ble_eq_true rfl) (by rfl) ?_
  refine qV (qS (qW [0,3,5] (e':=[(0,_),(3,_),(5,_)]) rfl ?_))
  refine kK (qQ (qG (qG (qC (.q 0 (.q 1 ((.l 2 [] (.done))))) Kr ?_))))
  refine qL (k:=0) rfl rfl rfl rfl υ'36 rfl ζ'34 rfl ?_
  refine qP (j:=0) rfl rfl rfl rfl α'34 Tk Az (by rfl) ?_
  have sp_35:=rreleases_spec k
  refine qM rfl rfl rfl rfl rfl rfl κ'34 (sp_35) Ts ?_
  rintro ⟨⟩ -
  try simp only [List.cons_append,List.nil_append]
  refine qV (qS (qQ ?_))
  refine qB rfl (fun hg=>?_) (fun hg=>by exfalso;exact hg (by unfold relK;omega))
  refine qC (.q 0 (.q 1 ((.l 2 [] (.done))))) Kr ?_
  refine qK rfl rfl rfl rfl (qK rfl rfl rfl rfl ?_)
  have sp_36:=more_spec b r.V.length Vc t (.pointer (some ⟨cb,0,none⟩)) (.slice La r.L.length Lc) (.slice Oa r.O.length Oc) (.slice ra2 (r.R.length+1) rc2) (.slice Xa r.X.length Xc) (.int .i64 x.cost) Va r.V (M++[(qa,qc,(jndL ([]:List Int) h.2.2))]) h (by simp) hh ho (inp_add (hP.V _ (List.mem_of_getElem? hh))) htn (by rw [hgt];exact hlt)
  refine qM rfl rfl rfl rfl rfl rfl κ'44 (sp_36) Ts ?_
  rintro ⟨wa,wc⟩ hpw
  try simp only [List.cons_append,List.nil_append]
  refine qV (qS (qW [] (e':=[]) rfl ?_))
  refine qQ (qG (qC (.q 0 (.done)) Kr ?_))
  refine qR rfl rfl rfl rfl (qS (qQ (qJ ?_)))
  have hF:(feF x k ((t:Nat):Int) ((o:Nat):Int))=⟨⟨nxF x.v.ck k ((t:Nat):Int) ((o:Nat):Int),(upd x.v.th ((t:Nat):Int) (some (icL l t))),x.v.lk,x.v.vo,(upd x.v.rd (((o:Nat):Int),(opF x.v.ck ((o:Nat):Int)).1) (some (mgF ((x.v.rd (((o:Nat):Int),(opF x.v.ck ((o:Nat):Int)).1)).map (·.1)) l,x.v.ck.pa.getD o 0)))⟩,x.vs,x.cost⟩:=(by rw [fe_no hv Om Om,vn9 hth k9];(try simp only [Int.toNat_natCast]))
  refine rf_fold (b:=b) (M:=((M++[(qa,qc,(jndL ([]:List Int) h.2.2))])++[(wa,wc,(withL h.2.2 t (h.2.2.getD t 0+1)))])) (feF x k ((t:Nat):Int) ((o:Nat):Int)) ⟨(r.V.set t (wa,wc,(withL h.2.2 t (h.2.2.getD t 0+1)))),r.L,r.O,((r.R++[((((o:Nat):Int),(opF x.v.ck ((o:Nat):Int)).1,h0):RRd)]).set r.R.length ((((o:Nat):Int),(opF x.v.ck ((o:Nat):Int)).1,((qa,qc,(jndL ([]:List Int) h.2.2)):H)):RRd)),r.X⟩ (pa:=pa) (pc:=pc) (cb:=cb) (Va:=Va) (Vc:=Vc) (La:=La) (Lc:=Lc) (Oa:=Oa) (Oc:=Oc) (Ra:=ra2) (Rc:=rc2) (Xa:=Xa) (Xc:=Xc) Ts rfl (by first | rfl | simp) (by first | rfl | simp) (by first | rfl | simp) (by first | rfl | simp) (by first | rfl | simp) (fe_ck hv).symm (by rw [hF]) (by rw [hF];exact rel_iff.2 ⟨(relA_V (relA_next hA _ _ _) (ok_with ho htn Om (by rw [hgt];omega)) (by rw [tr_more ho htn (by rw [hgt];exact hlt),htl])),(by rw [List.set_append_right _ _ (Nat.le_refl _),Nat.sub_self];exact arr_no hx.v.ck hB k9 hc hno (ok_jnd ok_nil ho) (by rw [tr_jnd ok_nil ho,htl,hpt];exact mg_jn hlc (fun q_ h_=>map_fst_cv hx.v h_)))⟩) (by rw [List.set_append_right _ _ (Nat.le_refl _),Nat.sub_self];exact pool_V (poolA_app (pool_R2 (poolA_app hP) hpq)) hpw) ?_
  refine cR rfl rfl (((M++[(qa,qc,(jndL ([]:List Int) h.2.2))])++[(wa,wc,(withL h.2.2 t (h.2.2.getD t 0+1)))])) (by rw [feE,if_pos hv]) (by exact fun q_ h_=>List.mem_append_left _ (List.mem_append_left _ h_)) ?_
  exact Tf
 refine qG (qC (.q 0 (.q 1 (.done))) Kr ?_)
 refine qN rfl rfl rfl rfl rfl (cS _ _ _ _) ?_
 refine qR rfl rfl rfl rfl (qS (qW [0,3,5,6,255] (e':=[(0,_),(3,_),(5,_),(6,_),(255,_)]) rfl ?_))
 refine qQ ?_
 refine qB rfl (fun k10=>?_) (fun k10=>?_)
 ·
  refine qG ?_
  obtain ⟨o5,o7,o9,o10,o11⟩:=can_obj hx.v.ck hc
  have hsh:=hx.v.ck.sh
  rw [Int.toNat_natCast] at o5 o7 o9
  obtain ⟨q1,q2,q3⟩:=o10 k10
  obtain ⟨p,hrd,hp1⟩:=rd_some hx.v q1 q3
  have hrf:rdF x.v (((o:Nat):Int),(stF x.v.ck ((t:Nat):Int)).2.2)=p:=by rw [rdF,hrd];rfl
  have hex:∃ (j:Nat) (q:RRd),r.R[j]?=some q∧q.1=((o:Nat):Int)∧q.2.1=(stF x.v.ck ((t:Nat):Int)).2.2:=by
    obtain ⟨g,hg⟩:=hR.Re _ _ p hrd
    obtain ⟨j,hj⟩:=List.getElem?_of_mem hg
    exact ⟨j,_,hj,rfl,rfl⟩
  have hrlt:(stF x.v.ck ((t:Nat):Int)).2.2 < (opF x.v.ck ((o:Nat):Int)).1:=by rw [q3];exact q2.2
  refine qC (.q 0 (.q 1 (.q 2 (.q 3 (.q 4 ((.l 5 [] (.q 6 (.done))))))))) Kr ?_
  refine qK rfl rfl rfl rfl (qL (k:=2) rfl rfl rfl rfl υ'36 rfl ζ'3 rfl ?_)
  refine qP (j:=2) rfl rfl rfl rfl α'3 Tk Az (by rfl) ?_
  refine qL (k:=2) rfl rfl rfl rfl υ'107 rfl ζ'3 rfl ?_
  refine qP (j:=2) rfl rfl rfl rfl α'3 Tk Az (by rfl) ?_
  have sp_37:=round_yes b r.R.length Rc (.pointer (some ⟨cb,0,none⟩)) (.slice Va r.V.length Vc) (.slice La r.L.length Lc) (.slice Oa r.O.length Oc) (.slice Xa r.X.length Xc) (.int .i64 x.cost) Ra r.R ((o:Nat):Int) ((stF x.v.ck ((t:Nat):Int)).2.2) rfl Om hex
  refine qM rfl rfl rfl rfl rfl rfl Try.call43 (sp_37) Ts ?_
  rintro ri ⟨rq,hrq,hrq1,hrq2⟩
  have hril:=(List.getElem?_eq_some_iff.1 hrq).1
  try simp only [List.cons_append,List.nil_append]
  refine qV ?_
  obtain ⟨hro,-,hrp⟩:=hR.Rk rq (List.mem_of_getElem? hrq)
  have hqol:=hro.1
  have hpt:tr rq.2.2.2.2=p.1:=hrp p (by rw [hrq1,hrq2];exact hrd)
  refine qR rfl rfl rfl rfl (qS (qW [0,3,5,12] (e':=[(0,_),(3,_),(5,_),(12,_)]) rfl ?_))
  refine qQ (kX rfl (.q 0 (.q 1 (.q 2 (.q 3 (.q 4 (.q 5 (.q 6 (.q 7 (.q 8 (.q 9 (.q 10 (.q 11 (.q 12 (.q 13 (.q 14 (.q 15 (.q 16 (.q 17 (.q 18 (.q 19 ((.l 20 [3] (.q 21 ((.l 22 [] (.done)))))))))))))))))))))))))) Kr ?_)
  refine qK rfl rfl rfl rfl (qX rfl rfl rfl rfl (qL (k:=1) rfl rfl rfl rfl υ'97 rfl ζ'66 rfl ?_))
  refine qP (j:=1) rfl rfl rfl rfl α'66 Tk Az (by rfl) ?_
  refine qK rfl rfl rfl rfl (qK rfl rfl rfl rfl (qX rfl rfl rfl rfl (qL (k:=1) rfl rfl rfl rfl υ'97 rfl ζ'66 rfl ?_)))
  refine qP (j:=1) rfl rfl rfl rfl α'66 Tk Az (by rfl) ?_
  refine qK rfl rfl rfl rfl (kY (sz:=0) (k:=t) (enc:=encH) (xs:=r.V) rfl rfl rfl rfl rfl υ'66 ζ'50 hh (by first | rfl | omega) Om Tk ?_)
  intro ib273 io273 ha273 hl273 hc273
  refine kQ (v:=(.slice h.1 h.2.2.length h.2.1)) (j:=0) (k':=t) (enc:=encH) (off:=io273) rfl rfl rfl rfl α'50 ha273 kD hh Tk (by first | rfl | exact (Nat.add_zero _).symm | omega) (by rfl) ?_
  refine qK rfl rfl rfl rfl (qX rfl rfl rfl rfl (qL (k:=4) rfl rfl rfl rfl υ'97 rfl ζ'94 rfl ?_))
  refine qP (j:=4) rfl rfl rfl rfl α'94 Tk Az (by rfl) ?_
  refine qK rfl rfl rfl rfl (kY (sz:=2) (k:=ri) (enc:=encR) (xs:=r.R) rfl rfl rfl rfl rfl υ'94 ζ'115 hrq (by first | rfl | omega) Om Tk ?_)
  intro ib280 io280 ha280 hl280 hc280
  refine qL (k:=2) rfl rfl rfl rfl υ'115 rfl ζ'50 rfl ?_
  refine kQ (v:=(.slice rq.2.2.1 rq.2.2.2.2.length rq.2.2.2.1)) (j:=2) (k':=ri) (enc:=encR) (off:=io280) rfl rfl rfl rfl α'50 ha280 encR_len hrq Tk (by first | rfl | exact (Nat.add_zero _).symm | omega) (by rfl) ?_
  have sp_38:=Fr.joined_spec h.2.2 rq.2.2.2.2 h.1 rq.2.2.1 h.2.2.length rq.2.2.2.2.length h.2.1 rq.2.2.2.1 (bigS (owA 1 encU) M) (inp_rds (hP.V _ (List.mem_of_getElem? hh))) (inp_rds (hP.R _ (List.mem_of_getElem? hrq))) Ln Ln Om Om
  refine qM rfl rfl rfl rfl rfl rfl κ'41 (sp_38) Ts ?_
  rintro ⟨qa,qc⟩ -
  try simp only [List.cons_append,List.nil_append]
  refine s_pool (ao:=qa) (cap:=qc) (l:=(jndL h.2.2 rq.2.2.2.2)) (M:=M) Ts fun hpq=>?_
  try simp only [List.cons_append,List.nil_append]
  refine qH (q:=1) rfl rfl rfl α'66 Tk Az (by rfl) ?_
  refine qV (kY (sz:=0) (k:=t) (enc:=encH) (xs:=r.V) rfl rfl rfl rfl rfl υ'66 ζ'50 hh (by first | rfl | omega) Om Tk ?_)
  intro ib284 io284 ha284 hl284 hc284
  refine kJ (j:=0) (k:=t) (q:=((qa,qc,(jndL h.2.2 rq.2.2.2.2)):H)) (enc:=encH) (off:=io284) rfl rfl rfl rfl ζ'50 (us:=[_]) rfl rfl rfl ha284 kD hh Tk (by first | rfl | exact (Nat.add_zero _).symm | omega) (by first | decide | exact Nat.le_of_ble_eq_true rfl) (by rfl) ?_
  refine qV (qS (qW [0,3,5] (e':=[(0,_),(3,_),(5,_)]) rfl ?_))
  refine kK (qQ (qG (qG (qC (.q 0 (.q 1 ((.l 2 [] (.done))))) Kr ?_))))
  refine qL (k:=0) rfl rfl rfl rfl υ'36 rfl ζ'34 rfl ?_
  refine qP (j:=0) rfl rfl rfl rfl α'34 Tk Az (by rfl) ?_
  have sp_39:=rreleases_spec k
  refine qM rfl rfl rfl rfl rfl rfl κ'34 (sp_39) Ts ?_
  rintro ⟨⟩ -
  try simp only [List.cons_append,List.nil_append]
  refine qV (qS (qQ ?_))
  refine qB rfl (fun hg=>by exfalso;unfold relK at hg;omega) (fun hg=>?_)
  refine qF (qQ (qG (qC (.q 0 (.done)) Kr ?_)))
  refine qR rfl rfl rfl rfl (qS (qW [4] (e':=[(4,_)]) rfl ?_))
  refine qQ (qJ ?_)
  have hF:(feF x k ((t:Nat):Int) ((o:Nat):Int))=⟨⟨nxF x.v.ck k ((t:Nat):Int) ((o:Nat):Int),(upd x.v.th ((t:Nat):Int) (some (jn l p.1))),x.v.lk,x.v.vo,(upd x.v.rd (((o:Nat):Int),(stF x.v.ck ((t:Nat):Int)).2.2) (if p.2 - 1≤0 then none else some (p.1,p.2 - 1)))⟩,x.vs,x.cost⟩:=(by rw [fe_no hv Om Om,vn10 hth k10];simp only [dpF,thF_eq hth,hrf])
  refine rf_fold (b:=b) (M:=(M++[(qa,qc,(jndL h.2.2 rq.2.2.2.2))])) (feF x k ((t:Nat):Int) ((o:Nat):Int)) ⟨(r.V.set t ((qa,qc,(jndL h.2.2 rq.2.2.2.2)):H)),r.L,r.O,r.R,r.X⟩ (pa:=pa) (pc:=pc) (cb:=cb) (Va:=Va) (Vc:=Vc) (La:=La) (Lc:=Lc) (Oa:=Oa) (Oc:=Oc) (Ra:=Ra) (Rc:=Rc) (Xa:=Xa) (Xc:=Xc) Ts rfl (by first | rfl | simp) (by first | rfl | simp) (by first | rfl | simp) (by first | rfl | simp) (by first | rfl | simp) (fe_ck hv).symm (by rw [hF]) (by rw [hF];exact rel_iff.2 ⟨(relA_V (relA_next hA _ _ _) (ok_jnd ho hro) (by rw [tr_jnd ho hro,htl,hpt])),relR_keep (relR_dep hB hrd hrlt _ (fun s hs=>by split at hs <;> cases hs;rfl)) hx.v.ck hc Om⟩) (pool_V (poolA_app hP) hpq) ?_
  refine cR rfl rfl ((M++[(qa,qc,(jndL h.2.2 rq.2.2.2.2))])) (by rw [feE,if_pos hv]) (by exact fun q_ h_=>List.mem_append_left _ h_) ?_
  exact Tf
 refine qF (kK (qQ (qG (qG (qC (.q 0 (.q 1 ((.l 2 [] (.done))))) Kr ?_)))))
 refine qL (k:=0) rfl rfl rfl rfl υ'36 rfl ζ'34 rfl ?_
 refine qP (j:=0) rfl rfl rfl rfl α'34 Tk Az (by rfl) ?_
 have sp_40:=rreleases_spec k
 refine qM rfl rfl rfl rfl rfl rfl κ'34 (sp_40) Ts ?_
 rintro ⟨⟩ -
 try simp only [List.cons_append,List.nil_append]
 refine qV (qS (qW [0,5,287] (e':=[(0,_),(5,_),(287,_)]) rfl ?_))
 refine qQ ?_
 refine qB rfl (fun hg=>by exfalso;unfold relK at hg;omega) (fun hg=>?_)
 refine qF (qQ (qG (qC (.q 0 (.done)) Kr ?_)))
 refine qR rfl rfl rfl rfl (qS (qQ (qJ ?_)))
 have hF:(feF x k ((t:Nat):Int) ((o:Nat):Int))=⟨⟨nxF x.v.ck k ((t:Nat):Int) ((o:Nat):Int),x.v.th,x.v.lk,x.v.vo,x.v.rd⟩,x.vs,x.cost⟩:=(by rw [fe_no hv Om Om,vn0 Om Om Om Om Om Om Om Om])
 refine rf_fold (b:=b) (M:=M) (feF x k ((t:Nat):Int) ((o:Nat):Int)) ⟨r.V,r.L,r.O,r.R,r.X⟩ (pa:=pa) (pc:=pc) (cb:=cb) (Va:=Va) (Vc:=Vc) (La:=La) (Lc:=Lc) (Oa:=Oa) (Oc:=Oc) (Ra:=Ra) (Rc:=Rc) (Xa:=Xa) (Xc:=Xc) Ts rfl (by first | rfl | simp) (by first | rfl | simp) (by first | rfl | simp) (by first | rfl | simp) (by first | rfl | simp) (fe_ck hv).symm (by rw [hF]) (by rw [hF];exact rel_iff.2 ⟨(relA_next hA _ _ _),relR_keep hB hx.v.ck hc Om⟩) (hP) ?_
 refine cR rfl rfl (M) (by rw [feE,if_pos hv]) (by exact fun q_ h_=>h_) ?_
 exact Tf
theorem revent_spec (pa:Option Addr) (pc b:Nat) (M:List H) (x:FS) (hx:FInv x) (hn:x.v.ck.n≤4000000) (pl:List Int) (hpl:x.v.ck.pa=pl) (k t o:Int):Spec Try.prog 13 [.pointer (some ⟨b,0,none⟩),.agg #[.int .i64 k,.int .i64 t,.int .i64 o]] [rfR pa pc b M x,own 1 encZ pa pc pl,bigS (owA 1 encU) M] (fun (M':List H)=>.int .i64 (feE x k t o)) (fun M'=>∀ q_∈M,q_∈M') (fun M'=>[rfR pa pc b M' (feF x k t o),own 1 encZ pa pc pl,bigS (owA 1 encU) M']):=by
  by_cases hc:canF x.v.ck k t o
  · obtain ⟨h1,-⟩:=th_rng hx.v (can_th hc)
    have h2:0≤o:=by
      rcases hc with ⟨a,-,e,-⟩ | ⟨-,e,-⟩
      · rw [e];exact ((stF_inv hx.v.ck t).2.2.1 a).1
      · exact e
    obtain ⟨i,rfl⟩:=Int.eq_ofNat_of_zero_le h1
    obtain ⟨j,rfl⟩:=Int.eq_ofNat_of_zero_le h2
    by_cases hv:vcanF x.v k (i:Int) (j:Int)
    · exact revent_can pa pc b M x hx hn pl hpl k i j hv
    · rw [feE,if_neg hv,feF,if_neg hv]
      exact revent_max pa pc b M x hx hn pl hpl k i j hc hv
  · have hv:¬ vcanF x.v k t o:=fun h=>hc h.1
    rw [feE,if_neg hv,feF,if_neg hv]
    exact revent_no pa pc b M x hx hn pl hpl k t o hc
end Go.Ab.Fr
set_option linter.unusedVariables false
set_option linter.unusedSimpArgs false
set_option maxRecDepth 100000
namespace Go.Ab.DjB
open Go Go.Proofs Go.Ab Go.Ab.Fe Go.Ab.Vc Go.Ab.Dj
/-- All clocks are at most one more than there are events. -/
structure BInv (x:VS):Prop where
  inv:VInv x
  th:∀ t l,x.th t=some l→∀ i:Nat,l.getD i 0≤x.ck.n+1
  lk:∀ t l,x.lk t=some l→∀ i:Nat,l.getD i 0≤x.ck.n+1
  vo:∀ t l,x.vo t=some l→∀ i:Nat,l.getD i 0≤x.ck.n+1
  rd:∀ r p,x.rd r=some p→∀ i:Nat,p.1.getD i 0≤x.ck.n+1
end Go.Ab.DjB
set_option linter.unusedVariables false
set_option linter.unusedSimpArgs false
namespace Go.Ab.Fe
open Go Go.Proofs Go.Ab
def runE:CS→List T3→List T3
  | _,[]=>[]
  | x,e::es=>if canT x e then e::runE (nxT x e) es else runE x es
end Go.Ab.Fe
set_option linter.unusedVariables false
set_option linter.unusedSimpArgs false
set_option maxRecDepth 100000
namespace Go.Ab.Fa
open Go Go.Proofs Go.Ab Go.Ab.Fe Go.Ab.Vc Go.Ab.Dj Go.Ab.DjB
end Go.Ab.Fa
set_option linter.unusedVariables false
set_option linter.unusedSimpArgs false
set_option maxRecDepth 100000
namespace Go.Ab.Fr
open Go Go.Proofs Go.Ab Go.Ab.Fe Go.Ab.Vc Go.Ab.Dj Go.Ab.Fa Go.Ab.DjB
theorem sh_len {x:FS} (hx:FInv x) (z:Int):((shE (wFF x z)).getD []).length≤65535:=by
  rcases wFF_cases x z with ⟨i,w,rfl,hw⟩ | hz
  · rw [wFF_nat,hw]
    show (w.2.2.1.getD []).length≤_
    cases hs:w.2.2.1 with
    | none=>exact Nat.zero_le _
    | some s=>exact ((hx.vs w (List.mem_of_getElem? hw)).2.2.1 s hs).len
  · rw [wFF_none hz];exact Nat.zero_le _
theorem th_len {x:FS} (hx:FInv x) (z:Int):(thF x.v z).length≤65535:=by
  cases h:x.v.th z with
  | none=>rw [thF,h];exact Nat.zero_le _
  | some l=>rw [thF_eq h];exact (hx.v.thc _ _ h).len
theorem alike_spec (pa:Option Addr) (pc:Nat) (po:Option Addr) (poc b:Nat) (qa:Option Addr) (qc c:Nat) (M:List H) (x:FS) (hx:FInv x):Spec Try.prog 15 [.pointer (some ⟨b,0,none⟩),.pointer (some ⟨c,0,none⟩)] [dfR pa pc po poc b x,rfR qa qc c M x,bigS (owA 1 encU) M] (fun (_:Unit)=>.bool true) (fun _=>True) (fun _=>[dfR pa pc po poc b x,rfR qa qc c M x,bigS (owA 1 encU) M]):=by
 refine kP (n:=78) Try.func15 rfl rfl rfl ?_
 intro Γ w0
 simp only [argE,List.cons_append,List.nil_append,Nat.zero_add,Nat.reduceAdd]
 refine qG (qC (.q 0 (.done)) Kr ?_)
 refine qR rfl rfl rfl rfl (qS (qQ (qG (qG (qC (.q 0 (.q 1 (.q 2 (.q 3 (.q 4 (.done)))))) Kr ?_)))))
 refine qK rfl rfl rfl rfl (cY rfl rfl rfl rfl υ'27 ?_)
 refine kH 12 rfl (v':=.bool false) rfl ?_
 refine qK rfl rfl rfl rfl (cY rfl rfl rfl rfl υ'31 ?_)
 refine kH 14 rfl (v':=.bool false) rfl ?_
 refine q_neb rfl rfl rfl rfl rfl υ'4 ?_
 refine kH 15 rfl (v':=.bool false) rfl ?_
 refine qS (qW [0,1,15] (e':=[(0,_),(1,_),(15,_)]) rfl ?_)
 refine qQ (kB rfl ?_)
 refine qF (qQ (qG (qG (qC (.q 0 (.q 1 (.done))) Kr ?_))))
 refine qK rfl rfl rfl rfl (cY rfl rfl rfl rfl υ'27 ?_)
 refine kH 17 rfl (v':=.bool false) rfl ?_
 refine qS (qQ (kB rfl ?_))
 refine qF (qQ (qG (qG ?_)))
 have hfl:=flFF_len x.vs
 have hvb:=hx.v.ck.sh.va
 have hvt:=hx.v.ck.sh.th
 have hvl:=hx.len
 have hcc:=hx.c0
 refine qC (.q 0 ((.l 1 [] (.q 2 ((.l 3 [] ((.l 4 [] (.q 5 (.q 6 (.q 7 ((.l 8 [] (.q 9 ((.l 10 [] (.q 11 (.q 12 (.done))))))))))))))))))) Kr ?_
 refine qK rfl rfl rfl rfl ?_
 have sp_1:=Fa.flags_spec pa pc po poc b x hx
 refine qM rfl rfl rfl rfl rfl rfl κ'22 (sp_1) Ts ?_
 rintro ⟨f1a,f1c⟩ -
 try simp only [List.cons_append,List.nil_append]
 refine qV (qK rfl rfl rfl rfl ?_)
 have sp_2:=Fr.rflags_spec qa qc c M x hx 
 refine qM rfl rfl rfl rfl rfl rfl Try.call56 (sp_2) Ts ?_
 rintro ⟨f2a,f2c⟩ -
 try simp only [List.cons_append,List.nil_append]
 refine qV (cK (A:=own 2 enc2 f1a f1c (flFF x.vs)) Tk ?_)
 refine rQ fun f_3a f_3b f_3c=>?_
 refine cK (A:=own 2 enc2 f2a f2c (flFF x.vs)) Tk ?_
 refine rQ fun f_4a f_4b f_4c=>?_
 refine kF (fun _ h=>Bun.fold ((by (repeat ((with_reducible apply Z2);focus (first | (with_reducible (repeat (first | exact Z0 | apply Z1));done) | (repeat (first | exact Z0 | apply Z1)))));exact Z3:Takes _ [own 2 enc2 f1a f1c (flFF x.vs),own 2 enc2 f2a f2c (flFF x.vs)] _) _ h)) ?_
 have sp_5:=fflags_same (flFF x.vs) (flFF x.vs) f1a f2a ((flFF x.vs).length) ((flFF x.vs).length) f1c f2c (Bun [own 2 enc2 f1a f1c (flFF x.vs),own 2 enc2 f2a f2c (flFF x.vs)]) Ln (rds_bun (List.mem_cons_self) (sD enc2_len (fun h=>(f_3b h).1) f_3c)) Ln (rds_bun (List.mem_cons_of_mem _ (List.mem_cons_self)) (sD enc2_len (fun h=>(f_4b h).1) f_4c)) Om
 refine qM rfl rfl rfl rfl rfl rfl Try.call21 (sp_5) Ts ?_
 rintro ⟨⟩ -
 try simp only [List.cons_append,List.nil_append]
 refine cK (A:=Bun [own 2 enc2 f1a f1c (flFF x.vs),own 2 enc2 f2a f2c (flFF x.vs)]) Tk ?_
 refine s_bun ?_
 try simp only [List.cons_append,List.nil_append]
 try simp only [List.cons_append,List.nil_append]
 refine qV (kH 22 rfl (v':=.bool true) (by first | rfl | simp) ?_)
 refine rL rfl rfl rfl rfl ?_
 refine kH 23 rfl (v':=.bool false) rfl ?_
 refine qK rfl rfl rfl rfl (qK rfl rfl rfl rfl ?_)
 have sp_6:=Fa.cost_spec pa pc po poc b x hx
 refine qM rfl rfl rfl rfl rfl rfl Try.call17 (sp_6) Ts ?_
 rintro ⟨⟩ -
 try simp only [List.cons_append,List.nil_append]
 refine qV (qK rfl rfl rfl rfl ?_)
 have sp_8:=Fr.rcost_spec qa qc c M x  
 refine qM rfl rfl rfl rfl rfl rfl Try.call57 (sp_8) Ts ?_
 rintro ⟨⟩ -
 try simp only [List.cons_append,List.nil_append]
 refine qV (qN rfl rfl rfl rfl rfl (b_neq _ _ _ _) ?_)
 refine kH 29 rfl (v':=.bool false) (by first | rfl | simp) ?_
 refine kC rfl rfl rfl rfl rfl (qS (qW [0,1,30] (e':=[(0,_),(1,_),(30,_)]) rfl ?_))
 refine qQ (kB rfl ?_)
 refine qF (qQ (qG (qG (qC (.q 0 (.done)) Kr ?_))))
 refine qR rfl rfl rfl rfl (qS (qQ (kS ?_)))
 refine cD (α:=Nat) (fun (i:Nat)=>i≤x.vs.length+2) (fun (i:Nat)=>[(5,.int .i64 (((i:Nat):Int) - 1))]) (fun (i:Nat)=>[rfR qa qc c M x]) (fun (i:Nat)=>x.vs.length+2 - i) [0,1] (er:=[(0,_),(1,_)]) rfl (0) ?_ (by exact ⟨rfl,trivial⟩) (by (try dsimp only);(try simp only [Nat.add_zero,Nat.zero_add]);(repeat ((with_reducible apply Z2);focus (first | (with_reducible (repeat (first | exact Z0 | apply Z1));done) | (repeat (first | exact Z0 | apply Z1)))));exact Z3) ?_
 · exact Nat.zero_le _
 rintro i hle_i
 try simp only [List.cons_append,List.nil_append]
 refine qG (qG (cK (A:=rfR qa qc c M x) Tk ?_))
 refine rf_open fun cb Va Vc La Lc Oa Oc Ra Rc Xa Xc r hR hP=>?_
 refine qC (.q 0 (.q 1 (.q 2 (.q 3 (.q 4 (.q 5 (.q 6 (.done)))))))) Kr ?_
 refine qK rfl rfl rfl rfl (qK rfl rfl rfl rfl (qX rfl rfl rfl rfl (qL (k:=5) rfl rfl rfl rfl υ'97 rfl ζ'95 rfl ?_)))
 refine qP (j:=5) rfl rfl rfl rfl α'95 Tk Az (by rfl) ?_
 refine cH rfl rfl rfl rfl υ'95 ?_
 refine kH 36 rfl (v':=.int .i64 ((x.vs.length:Nat):Int)) (by rw [hR.Xn]) ?_
 refine rf_fold (b:=c) (M:=M) x r (pa:=qa) (pc:=qc) (cb:=cb) (Va:=Va) (Vc:=Vc) (La:=La) (Lc:=Lc) (Oa:=Oa) (Oc:=Oc) (Ra:=Ra) (Rc:=Rc) (Xa:=Xa) (Xc:=Xc) Ts rfl (by rfl) (by rfl) (by rfl) (by rfl) (by rfl) rfl rfl hR hP ?_
 refine qN rfl rfl rfl rfl rfl (b_leq _ _ _ _) ?_
 refine qS (qW [0,1,5,37] (e':=[(0,_),(1,_),(5,_),(37,_)]) rfl ?_)
 refine qQ ?_
 refine qB rfl (fun h_9=>?_) (fun h_9=>?_)
 ·
  refine qF (qQ (qG (kS (qG (qC (.q 0 (.q 1 ((.l 2 [] (.q 3 (.q 4 (.q 5 ((.l 6 [] ((.l 7 [] (.q 8 (.done))))))))))))) Kr ?_)))))
  refine qK rfl rfl rfl rfl (qK rfl rfl rfl rfl ?_)
  have sp_10:=Fa.state_spec pa pc po poc b x hx (((i:Nat):Int) - 1)
  refine qM rfl rfl rfl rfl rfl rfl Try.call18 (sp_10) Ts ?_
  rintro ⟨ua,uc⟩ -
  try simp only [List.cons_append,List.nil_append]
  refine qV (qK rfl rfl rfl rfl (kW rfl rfl rfl rfl rfl (kW rfl rfl rfl rfl rfl (cF rfl rfl rfl ω'52 (zs:=[.int .u64 0,.int .u64 0,.bool false,.slice none 0 0]) rfl ?_))))
  intro b6
  refine qV (kR (j:=0) rfl rfl rfl rfl ζ'52 (us:=[_,_,_,_]) rfl rfl rfl Tk Az (by first | decide | (simp;done) | omega) ?_)
  simp only [setL,List.set]
  refine qV (qR rfl rfl rfl rfl (qS (qW [0,1,5,6,7] (e':=[(0,_),(1,_),(5,_),(6,_),(7,_)]) rfl ?_)))
  refine qQ (qG (qC (.q 0 (.q 1 ((.l 2 [] (.q 3 (.q 4 (.q 5 ((.l 6 [] ((.l 7 [] (.q 8 (.done))))))))))))) Kr ?_))
  refine qK rfl rfl rfl rfl (qK rfl rfl rfl rfl ?_)
  have sp_11:=Fr.rstate_spec qa qc c M x  (((i:Nat):Int) - 1)
  refine qM rfl rfl rfl rfl rfl rfl Try.call58 (sp_11) Ts ?_
  rintro ⟨va,vc⟩ -
  try simp only [List.cons_append,List.nil_append]
  refine qV (qK rfl rfl rfl rfl (kW rfl rfl rfl rfl rfl (kW rfl rfl rfl rfl rfl (cF rfl rfl rfl ω'52 (zs:=[.int .u64 0,.int .u64 0,.bool false,.slice none 0 0]) rfl ?_))))
  intro b8
  refine qV (kR (j:=0) rfl rfl rfl rfl ζ'52 (us:=[_,_,_,_]) rfl rfl rfl Tk Az (by first | decide | (simp;done) | omega) ?_)
  simp only [setL,List.set]
  refine qV (qR rfl rfl rfl rfl (qS (qW [0,1,5,6,7,8,9] (e':=[(0,_),(1,_),(5,_),(6,_),(7,_),(8,_),(9,_)]) rfl ?_)))
  refine qQ (qG ?_)
  have hwl:((shE (wFF x (((i:Nat):Int) - 1))).getD []).length≤65535:=sh_len hx _
  refine qC (.q 0 (.q 1 (.q 2 (.q 3 (.q 4 (.q 5 ((.l 6 [] (.q 7 (.q 8 (.done))))))))))) Kr ?_
  refine qK rfl rfl rfl rfl (qK rfl rfl rfl rfl (q_neb rfl rfl rfl rfl rfl υ'4 ?_))
  refine kH 54 rfl (v':=.bool false) (by first | rfl | simp) ?_
  refine qK rfl rfl rfl rfl (kN rfl rfl rfl rfl α'52 ζ'52 Tk 0 (us:=[_,_,_,_]) Az rfl rfl ?_)
  refine kN rfl rfl rfl rfl α'52 ζ'52 Tk 0 (us:=[_,_,_,_]) Az rfl rfl ?_
  refine cK (A:=own 1 encU ua uc ((shE (wFF x (((i:Nat):Int) - 1))).getD [])) Tk ?_
  refine rQ fun f_12a f_12b f_12c=>?_
  refine cK (A:=own 1 encU va vc ((shE (wFF x (((i:Nat):Int) - 1))).getD [])) Tk ?_
  refine rQ fun f_13a f_13b f_13c=>?_
  refine kF (fun _ h=>Bun.fold ((by (repeat ((with_reducible apply Z2);focus (first | (with_reducible (repeat (first | exact Z0 | apply Z1));done) | (repeat (first | exact Z0 | apply Z1)))));exact Z3:Takes _ [own 1 encU ua uc ((shE (wFF x (((i:Nat):Int) - 1))).getD []),own 1 encU va vc ((shE (wFF x (((i:Nat):Int) - 1))).getD [])] _) _ h)) ?_
  have sp_14:=state_same (wrE (wFF x (((i:Nat):Int) - 1))) (rdE (wFF x (((i:Nat):Int) - 1))) (wrE (wFF x (((i:Nat):Int) - 1))) (rdE (wFF x (((i:Nat):Int) - 1))) (((shE (wFF x (((i:Nat):Int) - 1))).getD []).length) (((shE (wFF x (((i:Nat):Int) - 1))).getD []).length) uc vc ((shE (wFF x (((i:Nat):Int) - 1))).isSome) ((shE (wFF x (((i:Nat):Int) - 1))).isSome) ua va ((shE (wFF x (((i:Nat):Int) - 1))).getD []) ((shE (wFF x (((i:Nat):Int) - 1))).getD []) (Bun [own 1 encU ua uc ((shE (wFF x (((i:Nat):Int) - 1))).getD []),own 1 encU va vc ((shE (wFF x (((i:Nat):Int) - 1))).getD [])]) Ln (rds_bun (List.mem_cons_self) (sD encU_len (fun h=>(f_12b h).1) f_12c)) Ln (rds_bun (List.mem_cons_of_mem _ (List.mem_cons_self)) (sD encU_len (fun h=>(f_13b h).1) f_13c)) Om
  refine qM rfl rfl rfl rfl rfl rfl Try.call59 (sp_14) Ts ?_
  rintro ⟨⟩ -
  try simp only [List.cons_append,List.nil_append]
  refine cK (A:=Bun [own 1 encU ua uc ((shE (wFF x (((i:Nat):Int) - 1))).getD []),own 1 encU va vc ((shE (wFF x (((i:Nat):Int) - 1))).getD [])]) Tk ?_
  refine s_bun ?_
  try simp only [List.cons_append,List.nil_append]
  try simp only [List.cons_append,List.nil_append]
  refine qV (kH 58 rfl (v':=.bool true) (by first | rfl | simp) ?_)
  refine rL rfl rfl rfl rfl ?_
  refine kH 59 rfl (v':=.bool false) rfl ?_
  refine kC rfl rfl rfl rfl rfl (qS (qW [0,1,5,56,57,58,59,60] (e':=[(0,_),(1,_),(5,_),(56,_),(57,_),(58,_),(59,_),(60,_)]) rfl ?_))
  refine qQ (kB rfl ?_)
  refine qF (kK (qQ (qC (.q 0 (.q 1 (.q 2 (.done)))) Kr ?_)))
  refine qK rfl rfl rfl rfl (qN rfl rfl rfl rfl rfl (cV _ (by exact kG Om Om)) ?_)
  refine qR rfl rfl rfl rfl (qS (qQ (kH 5 rfl (v':=.int .i64 ((((i+1):Nat):Int) - 1)) (by first | rfl | (congr 1;done) | (congr 1 <;> first | rfl | omega | (simp;done) | (simp;omega))) ?_)))
  refine cQ (x:=i) (i+1) ?_ ?_ ?_ ?_
  · exact by show i+1≤x.vs.length+2;omega
  · show x.vs.length+2 - (i+1) < x.vs.length+2 - i;omega
  · exact ⟨rfl,rfl,rfl,trivial⟩
  · (try simp only [List.cons_append,List.nil_append]);exact Tf
 refine cM (qZ (qZ (kV (qQ (qG (qG (qC (.q 0 (.done)) Kr ?_)))))))
 refine qR rfl rfl rfl rfl (qS (qQ (kS ?_)))
 refine cD (α:=Nat) (fun (j:Nat)=>j≤x.v.ck.th.toNat+2) (fun (j:Nat)=>[(10,.int .i64 (((j:Nat):Int) - 1))]) (fun (j:Nat)=>[rfR qa qc c M x]) (fun (j:Nat)=>x.v.ck.th.toNat+2 - j) [0,1] (er:=[(0,_),(1,_)]) rfl (0) ?_ (by exact ⟨rfl,trivial⟩) (by (try dsimp only);(try simp only [Nat.add_zero,Nat.zero_add]);(repeat ((with_reducible apply Z2);focus (first | (with_reducible (repeat (first | exact Z0 | apply Z1));done) | (repeat (first | exact Z0 | apply Z1)))));exact Z3) ?_
 · exact Nat.zero_le _
 rintro j hle_j
 try simp only [List.cons_append,List.nil_append]
 refine qG (qG (cK (A:=rfR qa qc c M x) Tk ?_))
 refine rf_open fun cb Va Vc La Lc Oa Oc Ra Rc Xa Xc r hR hP=>?_
 refine qC (.q 0 (.q 1 (.q 2 (.q 3 (.q 4 (.q 5 (.q 6 (.done)))))))) Kr ?_
 refine qK rfl rfl rfl rfl (qK rfl rfl rfl rfl (qX rfl rfl rfl rfl (qL (k:=1) rfl rfl rfl rfl υ'97 rfl ζ'66 rfl ?_)))
 refine qP (j:=1) rfl rfl rfl rfl α'66 Tk Az (by rfl) ?_
 refine cH rfl rfl rfl rfl υ'66 ?_
 refine kH 66 rfl (v':=.int .i64 ((x.v.ck.th.toNat:Nat):Int)) (by congr 1;have:=hR.Vn;omega) ?_
 refine rf_fold (b:=c) (M:=M) x r (pa:=qa) (pc:=qc) (cb:=cb) (Va:=Va) (Vc:=Vc) (La:=La) (Lc:=Lc) (Oa:=Oa) (Oc:=Oc) (Ra:=Ra) (Rc:=Rc) (Xa:=Xa) (Xc:=Xc) Ts rfl (by rfl) (by rfl) (by rfl) (by rfl) (by rfl) rfl rfl hR hP ?_
 refine qN rfl rfl rfl rfl rfl (b_leq _ _ _ _) ?_
 refine qS (qW [0,1,10,67] (e':=[(0,_),(1,_),(10,_),(67,_)]) rfl ?_)
 refine qQ ?_
 refine qB rfl (fun h_15=>?_) (fun h_15=>?_)
 ·
  refine qF (qQ (qG (kS (qG ?_))))
  have hwl2:(thF x.v (((j:Nat):Int) - 1)).length≤65535:=th_len hx _
  refine qC (.q 0 (.q 1 ((.l 2 [] (.q 3 (.q 4 ((.l 5 [] ((.l 6 [] (.q 7 (.done)))))))))))) Kr ?_
  refine qK rfl rfl rfl rfl (qK rfl rfl rfl rfl ?_)
  have sp_16:=Fa.vector_spec pa pc po poc b x hx (((j:Nat):Int) - 1)
  refine qM rfl rfl rfl rfl rfl rfl Try.call19 (sp_16) Ts ?_
  rintro ⟨ua,uc⟩ -
  try simp only [List.cons_append,List.nil_append]
  refine qV (qK rfl rfl rfl rfl (qK rfl rfl rfl rfl ?_))
  have sp_17:=Fr.rvector_spec qa qc c M x hx (((j:Nat):Int) - 1)
  refine qM rfl rfl rfl rfl rfl rfl Try.call61 (sp_17) Ts ?_
  rintro ⟨va,vc⟩ -
  try simp only [List.cons_append,List.nil_append]
  refine qV (cK (A:=own 1 encU ua uc (thF x.v (((j:Nat):Int) - 1))) Tk ?_)
  refine rQ fun f_18a f_18b f_18c=>?_
  refine cK (A:=own 1 encU va vc (thF x.v (((j:Nat):Int) - 1))) Tk ?_
  refine rQ fun f_19a f_19b f_19c=>?_
  refine kF (fun _ h=>Bun.fold ((by (repeat ((with_reducible apply Z2);focus (first | (with_reducible (repeat (first | exact Z0 | apply Z1));done) | (repeat (first | exact Z0 | apply Z1)))));exact Z3:Takes _ [own 1 encU ua uc (thF x.v (((j:Nat):Int) - 1)),own 1 encU va vc (thF x.v (((j:Nat):Int) - 1))] _) _ h)) ?_
  have sp_20:=clocks_same (thF x.v (((j:Nat):Int) - 1)) (thF x.v (((j:Nat):Int) - 1)) ua va ((thF x.v (((j:Nat):Int) - 1)).length) ((thF x.v (((j:Nat):Int) - 1)).length) uc vc (Bun [own 1 encU ua uc (thF x.v (((j:Nat):Int) - 1)),own 1 encU va vc (thF x.v (((j:Nat):Int) - 1))]) Ln (rds_bun (List.mem_cons_self) (sD encU_len (fun h=>(f_18b h).1) f_18c)) Ln (rds_bun (List.mem_cons_of_mem _ (List.mem_cons_self)) (sD encU_len (fun h=>(f_19b h).1) f_19c)) Om
  refine qM rfl rfl rfl rfl rfl rfl Try.call60 (sp_20) Ts ?_
  rintro ⟨⟩ -
  try simp only [List.cons_append,List.nil_append]
  refine cK (A:=Bun [own 1 encU ua uc (thF x.v (((j:Nat):Int) - 1)),own 1 encU va vc (thF x.v (((j:Nat):Int) - 1))]) Tk ?_
  refine s_bun ?_
  try simp only [List.cons_append,List.nil_append]
  try simp only [List.cons_append,List.nil_append]
  refine qV (kH 76 rfl (v':=.bool true) (by first | rfl | simp) ?_)
  refine rL rfl rfl rfl rfl ?_
  refine kH 77 rfl (v':=.bool false) rfl ?_
  refine qS (qW [0,1,10,77] (e':=[(0,_),(1,_),(10,_),(77,_)]) rfl ?_)
  refine qQ (kB rfl ?_)
  refine qF (kK (qQ (qC (.q 0 (.q 1 (.q 2 (.done)))) Kr ?_)))
  refine qK rfl rfl rfl rfl (qN rfl rfl rfl rfl rfl (cV _ (by exact kG Om Om)) ?_)
  refine qR rfl rfl rfl rfl (qS (qQ (kH 10 rfl (v':=.int .i64 ((((j+1):Nat):Int) - 1)) (by first | rfl | (congr 1;done) | (congr 1 <;> first | rfl | omega | (simp;done) | (simp;omega))) ?_)))
  refine cQ (x:=j) (j+1) ?_ ?_ ?_ ?_
  · exact by show j+1≤x.v.ck.th.toNat+2;omega
  · show x.v.ck.th.toNat+2 - (j+1) < x.v.ck.th.toNat+2 - j;omega
  · exact ⟨rfl,rfl,rfl,trivial⟩
  · (try simp only [List.cons_append,List.nil_append]);exact Tf
 refine cM (qZ (qZ (kV (qQ (qG (qC (.q 0 (.done)) Kr ?_))))))
 refine qR rfl rfl rfl rfl (qS (qW [4] (e':=[(4,_)]) rfl ?_))
 refine qQ (qJ (cR rfl rfl (()) (by first | rfl | (first | rfl | (congr 1;done) | (congr 1 <;> first | rfl | omega | (simp;done) | (simp;omega)))) (by trivial) ?_))
 exact Tf
theorem alike_nil:Spec Try.prog 15 [.pointer none,.pointer none] [] (fun (_:Unit)=>.bool true) (fun _=>True) (fun _=>[]):=by
 refine kP (n:=78) Try.func15 rfl rfl rfl ?_
 intro Γ w0
 simp only [argE,List.cons_append,List.nil_append,Nat.zero_add,Nat.reduceAdd]
 refine qG (qC (.q 0 (.done)) Kr ?_)
 refine qR rfl rfl rfl rfl (qS (qQ (qG (qG (qC (.q 0 (.q 1 (.q 2 (.q 3 (.q 4 (.done)))))) Kr ?_)))))
 refine qK rfl rfl rfl rfl (cY rfl rfl rfl rfl υ'27 ?_)
 refine kH 12 rfl (v':=.bool true) rfl ?_
 refine qK rfl rfl rfl rfl (cY rfl rfl rfl rfl υ'31 ?_)
 refine kH 14 rfl (v':=.bool true) rfl ?_
 refine q_neb rfl rfl rfl rfl rfl υ'4 ?_
 refine kH 15 rfl (v':=.bool false) rfl ?_
 refine qS (qW [0,1,15] (e':=[(0,_),(1,_),(15,_)]) rfl ?_)
 refine qQ (kB rfl ?_)
 refine qF (qQ (qG (qG (qC (.q 0 (.q 1 (.done))) Kr ?_))))
 refine qK rfl rfl rfl rfl (cY rfl rfl rfl rfl υ'27 ?_)
 refine kH 17 rfl (v':=.bool true) rfl ?_
 refine qS (qQ (cN rfl ?_))
 refine qG (qC (.q 0 (.done)) Kr ?_)
 refine qR rfl rfl rfl rfl (qS (qW [4] (e':=[(4,_)]) rfl ?_))
 refine qQ (qJ (qD (cR rfl rfl (()) (by first | rfl | (first | rfl | (congr 1;done) | (congr 1 <;> first | rfl | omega | (simp;done) | (simp;omega)))) (by trivial) ?_)))
 exact Tf
end Go.Ab.Fr
set_option linter.unusedVariables false
set_option linter.unusedSimpArgs false
set_option maxRecDepth 100000
namespace Go.Ab.Fa
open Go Go.Proofs Go.Ab Go.Ab.Fe Go.Ab.Vc Go.Ab.Dj
theorem nodup_snoc {κ:Type} {S:List κ} {k:κ} (h:S.Nodup) (hk:k ∉ S):(S++[k]).Nodup:=List.nodup_append.2 ⟨h,by simp,fun a ha b hb=>by simp at hb;subst hb;intro e;exact hk (e ▸ ha)⟩
section
variable {κ ν τ:Type} [DecidableEq κ]
/-- A table, only where S is. -/
def rs {τ:Type} (S:List κ) (T:κ→Option τ):κ→Option τ:=fun k=>if k∈S then T k else none
/-- A table that is G where S is. -/
def ov {τ:Type} (S:List κ) (G F:κ→Option τ):κ→Option τ:=fun k=>if k∈S then G k else F k
theorem ov_nil (G F:κ→Option τ):ov [] G F=F:=by funext k;simp [ov]
theorem rs_nil (T:κ→Option τ):rs ([]:List κ) T=fun _=>none:=by funext k;simp [rs]
theorem ov_next {S:List κ} {G F:κ→Option τ} {k:κ} {v:Option τ}:upd (ov S G F) k v=ov (S++[k]) (upd G k v) F:=by
  funext q
  by_cases h:q=k
  · subst h;simp [ov,upd]
  · simp [ov,upd,h]
theorem rs_next {S:List κ} {G:κ→Option τ} {k:κ} {v:Option τ}:upd (rs S G) k v=rs (S++[k]) (upd G k v):=by
  funext q
  by_cases h:q=k
  · subst h;simp [rs,upd]
  · simp [rs,upd,h]
theorem ov_all {S:List κ} {G F:κ→Option τ} (h:∀ k v,F k=some v→k∈S):ov S G F=rs S G:=by
  funext k
  unfold ov rs
  split
  · rfl
  · rename_i hk
    cases hF:F k with
    | none=>rfl
    | some v=>exact absurd (h k v hF) hk
theorem rs_all {S:List κ} {F:κ→Option ν} {T:κ→Option τ} (h:∀ k v,F k=some v→k∈S) (hd:∀ k,(T k).isSome=(F k).isSome):rs S T=T:=by
  funext k
  unfold rs
  split
  · rfl
  · rename_i hk
    cases hT:T k with
    | none=>rfl
    | some v =>
      have:=hd k
      rw [hT] at this
      obtain ⟨u,hu⟩:=Option.isSome_iff_exists.1 this.symm
      exact absurd (h k u hu) hk
variable {res:ν→τ→HProp} {F G:κ→Option ν} {T:κ→Option τ} {S:List κ}
variable {w0:World} {ds:List Deferred} {n:Nat} {e:Env} {Γ Γ':List HProp} {X:Act→World→Prop}
theorem s_rest_takeF (k:κ) {v:ν} (tk:Take Γ (rest res F T S) Γ') (hk:k ∉ S) (hF:F k=some v) (k1:∀ t,T k=some t→Le (St w0 ds n e (res v t::rest res F T (k::S)::Γ')) X):Le (St w0 ds n e Γ) X:=fun a w s=>by
  cases hT:T k with
  | none =>
    obtain ⟨hv,-⟩:=rest_miss hk hT (tk _ s.heap)
    rw [hF] at hv;cases hv
  | some t =>
    obtain ⟨v',hv,s1⟩:=rest_take hk hT (tk _ s.heap)
    rw [hF] at hv;cases hv
    exact k1 t hT a w ⟨s.defers,s.size,s.env,s1,s.amb⟩
theorem s_rest_dom (tk:Take Γ (rest res F T []) Γ') (k1:(∀ k,(T k).isSome=(F k).isSome)→Le (St w0 ds n e (rest res F T []::Γ')) X):Le (St w0 ds n e Γ) X:=fun a w s=>by
  have s0:=tk _ s.heap
  refine k1 (fun k=>?_) a w ⟨s.defers,s.size,s.env,s0,s.amb⟩
  cases hT:T k with
  | none=>obtain ⟨hv,-⟩:=rest_miss (k:=k) (by simp) hT s0;rw [hv];rfl
  | some t=>obtain ⟨v,hv,-⟩:=rest_take (k:=k) (by simp) hT s0;rw [hv];rfl
theorem s_rest_next (k:κ) {v:ν} {t:τ} (tk:Takes Γ [res v t,rest res (rs S G) (rs S T) []] Γ') (hk:k ∉ S) (ht:T k=some t) (k1:Le (St w0 ds n e (rest res (rs (S++[k]) (upd G k (some v))) (rs (S++[k]) T) []::Γ')) X):Le (St w0 ds n e Γ) X:=kF (fun h s=>by
  obtain ⟨h1,l1,a1,s1⟩:=tk h s
  obtain ⟨-,s2⟩:=rest_miss (k:=k) (by simp) (by simp [rs,hk]) s1
  refine rest_put (k:=k) (by simp) ?_ (fun q hq _=>?_) ?_ (fun q hq _=>?_) ⟨h1,l1,a1,s2⟩
  · simp [rs,upd]
  · simp [rs,upd,hq]
  · simp [rs,ht]
  · simp [rs,hq]) k1
end
theorem rs_noF {κ τ:Type} [DecidableEq κ] (T:κ→Option τ):∀ k,rs ([]:List κ) T k=none:=fun k=>by simp [rs]
theorem app_set {α:Type} {A B:List α} {k:Nat} (q:α) (h:A.length=k) (hk:k < B.length):(A++B.drop k).set k q=(A++[q])++B.drop (k+1):=by
  subst h
  rw [List.set_append_right _ _ (Nat.le_refl _),Nat.sub_self,List.drop_eq_getElem_cons hk,List.set_cons_zero,List.append_assoc]
  rfl
theorem take_snoc {α:Type} {l:List α} {i:Nat} {a:α} (h:l[i]?=some a):l.take (i+1)=l.take i++[a]:=by rw [List.take_add_one,h];rfl
theorem app_get {α:Type} {A B:List α} {k:Nat} (h:A.length=k):(A++B.drop k)[k]?=B[k]?:=by
  subst h
  rw [List.getElem?_append_right (Nat.le_refl _),Nat.sub_self,List.getElem?_drop];rfl
theorem mclone_spec (m:Nat) (F:Int→Option (Option Addr)):Spec Try.prog 97 [.map (some m)] [mapO ekZ evA m F] (fun (r:Nat)=>.map (some r)) (fun r=>True) (fun r=>[mapO ekZ evA r F,mapO ekZ evA m F]):=by
 refine kP (n:=9) Try.func97 rfl rfl rfl ?_
 intro Γ w0
 simp only [argE,List.cons_append,List.nil_append,Nat.zero_add,Nat.reduceAdd]
 refine qG (qC (.q 0 (.done)) Kr ?_)
 refine qR rfl rfl rfl rfl (qS (qQ (qG (qG (qC (.q 0 (.q 1 (.done))) Kr ?_)))))
 refine qK rfl rfl rfl rfl (q_eq_nilm rfl rfl rfl rfl υ'77 ?_)
 refine kH 4 rfl (v':=.bool false) rfl ?_
 refine qS (qQ (kB rfl ?_))
 refine qF (qQ (qG (qC (.q 0 (.q 1 ((.l 2 [] ((.l 3 [] (.q 4 (.done)))))))) Kr ?_)))
 refine qK rfl rfl rfl rfl (q_iface rfl rfl rfl rfl υ'77 ?_)
 refine l_mapClone (ek:=ekZ) (ev1:=evA) (F:=F) (m:=m) rfl rfl rfl rfl Try.func104 rfl rfl Kr Kr Tk ?_
 intro mq
 refine qV (l_assert rfl rfl rfl rfl υ'77 ?_)
 refine qV (qR rfl rfl rfl rfl (qS (qW [2] (e':=[(2,_)]) rfl ?_)))
 refine qQ (qJ (cR rfl rfl (mq) (by first | rfl | (first | rfl | (congr 1;done) | (congr 1 <;> first | rfl | omega | (simp;done) | (simp;omega)))) (by trivial) ?_))
 exact Tf
theorem clonef_spec (xs:List P4F) (ao:Option Addr) (n c:Nat) (A:HProp) (hn:xs.length=n) (hr:RdS A ao (xs.flatMap encF)) (hb:xs.length≤4000000000):Spec Try.prog 66 [.slice ao n c] [A] (fun (r:Option Addr × Nat)=>.slice r.1 n r.2) (fun r=>True) (fun r=>[A,own 4 encF r.1 r.2 xs]):=by
 refine kP (n:=8) Try.func66 rfl rfl rfl ?_
 intro Γ w0
 simp only [argE,List.cons_append,List.nil_append,Nat.zero_add,Nat.reduceAdd]
 refine qG (qC (.q 0 (.done)) Kr ?_)
 refine qR rfl rfl rfl rfl (qS (qQ (qG (qG (qC (.q 0 (.q 1 (.done))) Kr ?_)))))
 refine qK rfl rfl rfl rfl (q_eq_nils rfl rfl rfl rfl υ'79 ?_)
 refine qS (qQ ?_)
 refine c_cond rfl (fun hno=>?_) (fun hno=>?_)
 ·
  try simp only [Bool.and_eq_true,Bool.or_eq_true,Bool.not_eq_true',Bool.not_eq_false',Bool.and_eq_false_iff,Bool.or_eq_false_iff,decide_eq_true_eq,decide_eq_false_iff_not] at hno
  have hx:=Vc.rds_nil hr encF_len (by simpa using hno)
  subst hx
  obtain rfl:n=0:=by simpa using hn.symm
  refine kF (fun _ h=>cJ (sz:=4) (enc:=encF) h) ?_
  refine qG (qC (.q 0 (.done)) Kr ?_)
  refine qR rfl rfl rfl rfl (qS (qQ (qJ (qD (cR rfl rfl ((none,0)) (by first | rfl | (first | rfl | (congr 1;done) | (congr 1 <;> first | rfl | omega | (simp;done) | (simp;omega)))) (by trivial) ?_)))))
  exact Tf
 try simp only [Bool.and_eq_true,Bool.or_eq_true,Bool.not_eq_true',Bool.not_eq_false',Bool.and_eq_false_iff,Bool.or_eq_false_iff,decide_eq_true_eq,decide_eq_false_iff_not] at hno
 refine qF (qQ (qG (qC ((.l 0 [] (.q 1 ((.l 2 [] (.q 3 (.done))))))) Kr ?_)))
 refine l_buildSlice0 rfl rfl rfl rfl υ'79 ζ'88 ?_
 intro b5
 refine qV (qK rfl rfl rfl rfl (cK (A:=cells b5 0 []) Tk ?_))
 refine kF (fun _ h=>own_mk (sz:=4) (enc:=encF) (xs:=[]) (sp:=[]) (cap:=0) (Nat.le_refl _) rfl h) ?_
 refine sV (sz:=4) (enc:=encF) (xs:=[]) rfl rfl rfl rfl rfl υ'79 Try.typeInfo88 rfl rfl rfl (by decide) Tk Tk (by first | rfl | omega | (simp;done) | (simp;omega)) (ys:=xs) (hr) (by rfl) (by exact hn) (encF_len) (encF_one) Om (by show _*32≤_;omega) ?_
 intro ao7 cp7
 try simp only [List.nil_append]
 refine qV (qR rfl rfl rfl rfl (qS (qW [2] (e':=[(2,_)]) rfl ?_)))
 refine qQ (qJ (cR rfl rfl ((ao7,cp7)) (by rw [Nat.zero_add]) (by trivial) ?_))
 exact Tf
theorem ccopyn:Spec Try.prog 65 [.pointer none] [] (fun (_:Unit)=>.pointer none) (fun _=>True) (fun _=>[]):=by
 refine kP (n:=21) Try.func65 rfl rfl rfl ?_
 intro Γ w0
 simp only [argE,List.cons_append,List.nil_append,Nat.zero_add,Nat.reduceAdd]
 refine qG (qC (.q 0 (.done)) Kr ?_)
 refine qR rfl rfl rfl rfl (qS (qQ (qG (qG (qC (.q 0 (.q 1 (.done))) Kr ?_)))))
 refine qK rfl rfl rfl rfl (cY rfl rfl rfl rfl υ'86 ?_)
 refine kH 5 rfl (v':=.bool true) rfl ?_
 refine qS (qQ (cN rfl ?_))
 refine qG (qC (.q 0 (.done)) Kr ?_)
 refine qR rfl rfl rfl rfl (qS (qQ (qJ (qD (cR rfl rfl (()) (by first | rfl | (first | rfl | (congr 1;done) | (congr 1 <;> first | rfl | omega | (simp;done) | (simp;omega)))) (by trivial) ?_)))))
 exact Tf
theorem copyk_spec (b:Nat) (l:List Int) (ao:Option Addr) (n c:Nat) (hn:l.length=n) (hb:n≤4000000000) (v:Value):Spec Try.prog 65 [.pointer (some ⟨b,0,none⟩)] [cells b 0 [.slice ao n c,v],own 1 encU ao c l] (fun (r:Nat × Option Addr × Nat)=>.pointer (some ⟨r.1,0,none⟩)) (fun r=>True) (fun r=>[cells b 0 [.slice ao n c,v],own 1 encU ao c l,cells r.1 0 [.slice r.2.1 n r.2.2],own 1 encU r.2.1 r.2.2 l]):=fun Γ w s=>by
  obtain ⟨h1,l1,a1,s1⟩:=cells_part s
  refine (Vc.copy_spec b l ao n c hn hb (cells b (0+1) [v]::Γ) w ⟨h1,l1,a1,s1.swap⟩).mono fun e w' ⟨x,e1,hx,s',a⟩=>⟨x,e1,hx,?_,a⟩
  simp only [List.cons_append,List.nil_append] at s' ⊢
  have s2:=(by (repeat ((with_reducible apply Z2);focus (first | (with_reducible (repeat (first | exact Z0 | apply Z1));done) | (repeat (first | exact Z0 | apply Z1)))));exact Z3:Takes _ [cells b 0 [.slice ao n c],cells b (0+1) [v]] _) _ s'
  exact cells_whole s2
theorem copied_spec (m:Nat) (F:Int→Option (Option Addr)) (T:Int→Option (List Int)) (hT:∀ k l,T k=some l→CV l):Spec Try.prog 64 [.map (some m)] [mapO ekZ evA m F,rest vecA F T []] (fun (r:Nat × (Int→Option (Option Addr)))=>.map (some r.1)) (fun r=>True) (fun r=>[mapO ekZ evA m F,rest vecA F T [],mapO ekZ evA r.1 r.2,rest vecA r.2 T []]):=by
 refine kP (n:=20) Try.func64 rfl rfl rfl ?_
 intro Γ w0
 simp only [argE,List.cons_append,List.nil_append,Nat.zero_add,Nat.reduceAdd]
 refine qG (qC (.q 0 (.done)) Kr ?_)
 refine qR rfl rfl rfl rfl (qS (qQ (qG (qC (.q 0 ((.l 1 [] (.q 2 (.done))))) Kr ?_))))
 refine qK rfl rfl rfl rfl ?_
 have sp_1:=mclone_spec m F
 refine qM rfl rfl rfl rfl rfl rfl Try.call97 (sp_1) Ts ?_
 rintro mq -
 try simp only [List.cons_append,List.nil_append]
 refine qV (qR rfl rfl rfl rfl (qS (qQ (qG (qG (qC (.q 0 ((.l 1 [] (.done)))) Kr ?_))))))
 refine qK rfl rfl rfl rfl (l_range (ek:=ekZ) (ev1:=evA) (F:=F) (m:=m) rfl rfl rfl rfl υ'77 Tk ?_)
 intro rr N_rr
 refine qV (qS (qW [3,9] (e':=[(3,_),(9,_)]) rfl ?_))
 refine qQ (kS (s_rest_new (res:=vecA) (rs ([]:List Int) (noF:Int→Option (Option Addr))) (rs ([]:List Int) T) (rs_noF _) (rs_noF _) ?_))
 refine cD (α:=List Int × (Int→Option (Option Addr))) (fun (x_:List Int × (Int→Option (Option Addr)))=>match x_ with | (vis,G)=>vis.Nodup) (fun (x_:List Int × (Int→Option (Option Addr)))=>match x_ with | (vis,G)=>[]) (fun (x_:List Int × (Int→Option (Option Addr)))=>match x_ with | (vis,G)=>[rng ekZ evA rr m F vis N_rr,mapO ekZ evA mq (ov vis G F),rest vecA F T [],rest vecA (rs vis G) (rs vis T) []]) (fun (x_:List Int × (Int→Option (Option Addr)))=>match x_ with | (vis,G)=>N_rr - vis.length) [3,9] (er:=[(3,_),(9,_)]) rfl (([]:List Int),(noF:Int→Option (Option Addr))) ?_ (by exact trivial) (by (try dsimp only);rw [ov_nil];(repeat ((with_reducible apply Z2);focus (first | (with_reducible (repeat (first | exact Z0 | apply Z1));done) | (repeat (first | exact Z0 | apply Z1)))));exact Z3) ?_
 · exact List.nodup_nil
 rintro ⟨vis,G⟩ hnd
 try simp only [List.cons_append,List.nil_append]
 refine qG (qC ((.l 0 [] (.q 1 (.done)))) Kr ?_)
 refine l_next (ek:=ekZ) (ev1:=evA) (F:=F) (m:=m) (vis:=vis) (N:=N_rr) rfl rfl rfl rfl (by assumption) Tk ?_ ?_
 ·
  intro hall hex
  refine qV (kW rfl rfl rfl rfl rfl (qS (qQ (qG (kB rfl ?_)))))
  refine cM (qZ (qZ (kV (qQ (qG (qC (.q 0 (.q 1 (.done))) Kr ?_))))))
  refine qK rfl rfl rfl rfl (qR rfl rfl rfl rfl (qS (qW [2] (e':=[(2,_)]) rfl ?_)))
  refine qQ (qJ (s_rest_dom (F:=F) (T:=T) Tk fun hdom=>?_))
  rw [rs_all hall hdom,ov_all hall]
  refine cR rfl rfl ((mq,rs vis G)) (by first | rfl | (first | rfl | (congr 1;done) | (congr 1 <;> first | rfl | omega | (simp;done) | (simp;omega)))) (by trivial) ?_
  exact Tf
 intro k_ v_ hkv hnk hltN
 refine qV (s_rest_takeF (F:=F) (T:=T) (S:=[]) k_ Tk (by simp) hkv fun l ht=>?_)
 refine s_vec Tk fun cb ca cc hcb=>?_
 subst hcb
 have hll:=(hT _ _ ht).len
 refine kW rfl rfl rfl rfl rfl (qS (qQ (qG (cN rfl ?_))))
 refine qF (qQ (kS (qG (qC (.q 0 (.q 1 (.q 2 (.q 3 (.q 4 (.done)))))) Kr ?_))))
 refine q_entry (ek:=ekZ) (ev1:=evA) (F:=F) (m:=m) (vis:=vis) (N:=N_rr) (k:=k_) (v:=(some ⟨cb,0,none⟩)) rfl rfl rfl rfl hkv Tk ?_
 refine kW rfl rfl rfl rfl rfl (kW rfl rfl rfl rfl rfl (kH 14 rfl (v':=.pointer (some ⟨cb,0,none⟩)) (by rfl) ?_))
 refine qR rfl rfl rfl rfl (qR rfl rfl rfl rfl (qS (qW [3,4,5,9] (e':=[(3,_),(4,_),(5,_),(9,_)]) rfl ?_)))
 refine qQ (qC (.q 0 (.q 1 (.q 2 ((.l 3 [] ((.l 4 [] (.done)))))))) Kr ?_)
 refine qK rfl rfl rfl rfl (qK rfl rfl rfl rfl (qK rfl rfl rfl rfl ?_))
 have sp_2:=Vc.copy_spec cb l ca l.length cc (by rfl) Om
 refine qM rfl rfl rfl rfl rfl rfl κ'65 (sp_2) Ts ?_
 rintro ⟨qb,qa,qc⟩ -
 try simp only [List.cons_append,List.nil_append]
 refine qV (sF (ek:=ekZ) (ev1:=evA) (F:=(ov vis G F)) (m:=mq) (k:=k_) (v:=(some ⟨qb,0,none⟩:Option Addr)) (by first | exact .inl rfl | exact .inr rfl) rfl rfl rfl rfl υ'77 (cW υ'3) Tk ?_)
 refine qV (qS (qW [3,9] (e':=[(3,_),(9,_)]) rfl ?_))
 refine kK (qQ (s_vecF cb ca cc l Ts ?_))
 refine sG (F:=F) (T:=T) (S:=[]) k_ F T Ts (by simp) hkv (fun _ _ _=>rfl) ht (fun _ _ _=>rfl) ?_
 refine s_vecF qb qa qc l Ts ?_
 refine s_rest_next (G:=G) (T:=T) (S:=vis) k_ Ts hnk ht ?_
 rw [ov_next]
 refine cQ (x:=(vis,G)) ((vis++[k_],upd G k_ (some (some ⟨qb,0,none⟩)))) ?_ ?_ ?_ ?_
 · try dsimp only
   exact nodup_snoc hnd hnk
 · show N_rr - (vis++[k_]).length < N_rr - vis.length;rw [List.length_append];simp;omega
 · exact ⟨rfl,rfl,trivial⟩
 · (try simp only [List.cons_append,List.nil_append]);exact Tf
theorem copy_spec (pa:Option Addr) (pc:Nat) (po:Option Addr) (poc b:Nat) (x:FS) (hx:FInv x):Spec Try.prog 20 [.pointer (some ⟨b,0,none⟩)] [dfR pa pc po poc b x] (fun (r:Nat)=>.pointer (some ⟨r,0,none⟩)) (fun r=>True) (fun r=>[dfR pa pc po poc b x,dfR pa pc po poc r x]):=by
 refine kP (n:=88) Try.func20 rfl rfl rfl ?_
 intro Γ w0
 simp only [argE,List.cons_append,List.nil_append,Nat.zero_add,Nat.reduceAdd]
 refine qG (qC (.q 0 (.done)) Kr ?_)
 refine qR rfl rfl rfl rfl (qS (qQ (qG (qG (cK (A:=dfR pa pc po poc b x) Tk ?_)))))
 refine df_open fun cb m1 m2 m3 m4 va vc F1 F2 F3 F4 V hV=>?_
 refine qC (.q 0 ((.l 1 [] (.done)))) Kr ?_
 refine qK rfl rfl rfl rfl ?_
 have sp_1:=Fa.none_spec b cb (.slice po x.v.ck.pa.length poc) (.map (some m1)) (.map (some m2)) (.map (some m3)) (.map (some m4)) (.slice va x.vs.length vc) (.int .i64 x.cost)
 refine qM rfl rfl rfl rfl rfl rfl κ'32 (sp_1) Ts ?_
 rintro ⟨⟩ -
 try simp only [List.cons_append,List.nil_append]
 refine qV (qS (qQ (kB rfl ?_)))
 refine qF (qQ (qG (qC (.q 0 (.q 1 (.q 2 ((.l 3 [] ((.l 4 [] (.done)))))))) Kr ?_)))
 refine qK rfl rfl rfl rfl (qX rfl rfl rfl rfl (kN rfl rfl rfl rfl Try.isAgg81 Try.sizeOf81 Tk 0 (us:=[_,_,_,_,_,_,_,_]) Az rfl rfl ?_))
 refine cF rfl rfl rfl Try.zeroValue81 (zs:=[.pointer none,.slice none 0 0,.map none,.map none,.map none,.map none,.slice none 0 0,.int .i64 0]) rfl ?_
 intro b3
 refine qV (kR (j:=0) rfl rfl rfl rfl Try.sizeOf81 (us:=[_,_,_,_,_,_,_,_]) rfl rfl rfl Tk Az (by first | decide | (simp;done) | omega) ?_)
 simp only [setL,List.set]
 refine qV (qS (qW [0,3] (e':=[(0,_),(3,_)]) rfl ?_))
 refine qQ (qG (qC (.q 0 (.q 1 (.q 2 (.q 3 ((.l 4 [] (.q 5 ((.l 6 [] (.done)))))))))) Kr ?_))
 refine qK rfl rfl rfl rfl (qX rfl rfl rfl rfl (qL (k:=0) rfl rfl rfl rfl υ'81 rfl ζ'76 rfl ?_))
 refine qP (j:=0) rfl rfl rfl rfl α'76 Tk Az (by rfl) ?_
 have sp_2:=Fe.copy_spec pa pc cb x.v.ck hx.v.ck
 refine qM rfl rfl rfl rfl rfl rfl Try.call63 (sp_2) Ts ?_
 rintro cq -
 try simp only [List.cons_append,List.nil_append]
 refine qV (qL (k:=0) rfl rfl rfl rfl υ'81 rfl ζ'76 rfl ?_)
 refine kR (j:=0) rfl rfl rfl rfl ζ'76 (us:=[_]) rfl rfl rfl Tk Az (by first | decide | (simp;done) | omega) ?_
 simp only [setL,List.set]
 refine qV (qS (qW [0,3] (e':=[(0,_),(3,_)]) rfl ?_))
 refine qQ (qG (kX rfl (.q 0 (.q 1 (.q 2 (.q 3 (.q 5 (.q 6 (.q 7 (.q 8 (.q 10 (.q 11 (.q 12 (.q 13 ((.l 4 [8,13] ((.l 9 [13] ((.l 14 [] (.q 15 ((.l 16 [] (.q 17 ((.l 18 [] (.q 19 ((.l 20 [] (.done)))))))))))))))))))))))))))) Kr ?_))
 refine qK rfl rfl rfl rfl (qX rfl rfl rfl rfl (qL (k:=2) rfl rfl rfl rfl υ'81 rfl ζ'77 rfl ?_))
 refine qP (j:=2) rfl rfl rfl rfl α'77 Tk Az (by rfl) ?_
 refine qK rfl rfl rfl rfl (qX rfl rfl rfl rfl (qL (k:=3) rfl rfl rfl rfl υ'81 rfl ζ'77 rfl ?_))
 refine qP (j:=3) rfl rfl rfl rfl α'77 Tk Az (by rfl) ?_
 refine qK rfl rfl rfl rfl (qX rfl rfl rfl rfl (qL (k:=4) rfl rfl rfl rfl υ'81 rfl ζ'77 rfl ?_))
 refine qP (j:=4) rfl rfl rfl rfl α'77 Tk Az (by rfl) ?_
 have sp_3:=copied_spec m1 F1 x.v.th hx.v.thc
 refine qM rfl rfl rfl rfl rfl rfl Try.call64 (sp_3) Ts ?_
 rintro ⟨n1,Gn1⟩ -
 try simp only [List.cons_append,List.nil_append]
 refine qH (q:=3) rfl rfl rfl α'77 Tk Az (by rfl) ?_
 refine qH (q:=4) rfl rfl rfl α'77 Tk Az (by rfl) ?_
 refine qV ?_
 have sp_4:=copied_spec m2 F2 x.v.lk hx.v.lkc
 refine qM rfl rfl rfl rfl rfl rfl Try.call64 (sp_4) Ts ?_
 rintro ⟨n2,Gn2⟩ -
 try simp only [List.cons_append,List.nil_append]
 refine qH (q:=4) rfl rfl rfl α'77 Tk Az (by rfl) ?_
 refine qV ?_
 have sp_5:=copied_spec m3 F3 x.v.vo hx.v.voc
 refine qM rfl rfl rfl rfl rfl rfl Try.call64 (sp_5) Ts ?_
 rintro ⟨n3,Gn3⟩ -
 try simp only [List.cons_append,List.nil_append]
 refine qV (qL (k:=2) rfl rfl rfl rfl υ'81 rfl ζ'77 rfl ?_)
 refine kR (j:=2) rfl rfl rfl rfl ζ'77 (us:=[_]) rfl rfl rfl Tk Az (by first | decide | (simp;done) | omega) ?_
 simp only [setL,List.set]
 refine qV (qL (k:=3) rfl rfl rfl rfl υ'81 rfl ζ'77 rfl ?_)
 refine kR (j:=3) rfl rfl rfl rfl ζ'77 (us:=[_]) rfl rfl rfl Tk Az (by first | decide | (simp;done) | omega) ?_
 simp only [setL,List.set]
 refine qV (qL (k:=4) rfl rfl rfl rfl υ'81 rfl ζ'77 rfl ?_)
 refine kR (j:=4) rfl rfl rfl rfl ζ'77 (us:=[_]) rfl rfl rfl Tk Az (by first | decide | (simp;done) | omega) ?_
 simp only [setL,List.set]
 refine qV (qS (qW [0,3] (e':=[(0,_),(3,_)]) rfl ?_))
 refine qQ (qG (qC ((.l 0 [] (.q 1 ((.l 2 [] (.done)))))) Kr ?_))
 refine rK (Int × Int) (Option Addr) ek2 evA rfl rfl rfl ?_
 intro n4
 refine qV (qL (k:=5) rfl rfl rfl rfl υ'81 rfl ζ'78 rfl ?_)
 refine kR (j:=5) rfl rfl rfl rfl ζ'78 (us:=[_]) rfl rfl rfl Tk Az (by first | decide | (simp;done) | omega) ?_
 simp only [setL,List.set]
 refine qV (qS (qQ (qG (qG (qC (.q 0 (.q 1 (.q 2 (.q 3 ((.l 4 [] (.done))))))) Kr ?_)))))
 refine qK rfl rfl rfl rfl (qX rfl rfl rfl rfl (qL (k:=5) rfl rfl rfl rfl υ'81 rfl ζ'78 rfl ?_))
 refine qP (j:=5) rfl rfl rfl rfl α'78 Tk Az (by rfl) ?_
 refine l_range (ek:=ek2) (ev1:=evA) (F:=F4) (m:=m4) rfl rfl rfl rfl υ'78 Tk ?_
 intro rr N_rr
 refine qV (qS (qW [0,3,42] (e':=[(0,_),(3,_),(42,_)]) rfl ?_))
 refine qQ (kS (s_rest_new (res:=keptA) (rs ([]:List (Int × Int)) (noF:Int × Int→Option (Option Addr))) (rs ([]:List (Int × Int)) x.v.rd) (rs_noF _) (rs_noF _) ?_))
 refine cD (α:=List (Int × Int) × (Int × Int→Option (Option Addr))) (fun (x_:List (Int × Int) × (Int × Int→Option (Option Addr)))=>match x_ with | (vis,G)=>vis.Nodup) (fun (x_:List (Int × Int) × (Int × Int→Option (Option Addr)))=>match x_ with | (vis,G)=>[]) (fun (x_:List (Int × Int) × (Int × Int→Option (Option Addr)))=>match x_ with | (vis,G)=>[rng ek2 evA rr m4 F4 vis N_rr,mapO ek2 evA n4 (rs vis G),rest keptA F4 x.v.rd [],rest keptA (rs vis G) (rs vis x.v.rd) []]) (fun (x_:List (Int × Int) × (Int × Int→Option (Option Addr)))=>match x_ with | (vis,G)=>N_rr - vis.length) [0,3,42] (er:=[(0,_),(3,_),(42,_)]) rfl (([]:List (Int × Int)),(noF:Int × Int→Option (Option Addr))) ?_ (by exact trivial) (by (try dsimp only);rw [rs_nil (noF:Int × Int→Option (Option Addr))];(repeat ((with_reducible apply Z2);focus (first | (with_reducible (repeat (first | exact Z0 | apply Z1));done) | (repeat (first | exact Z0 | apply Z1)))));exact Z3) ?_
 · exact List.nodup_nil
 rintro ⟨vis,G⟩ hnd
 try simp only [List.cons_append,List.nil_append]
 refine qG (qC ((.l 0 [] (.q 1 (.done)))) Kr ?_)
 refine l_next (ek:=ek2) (ev1:=evA) (F:=F4) (m:=m4) (vis:=vis) (N:=N_rr) rfl rfl rfl rfl (by assumption) Tk ?_ ?_
 ·
  intro hall hex
  refine qV (kW rfl rfl rfl rfl rfl (qS (qQ (qG (kB rfl ?_)))))
  refine cM (qZ (qZ (kV (qQ (qG (s_rest_dom (F:=F4) (T:=x.v.rd) Tk fun hdom=>?_))))))
  rw [rs_all hall hdom]
  have hvl:=hx.len
  have hva:=hx.v.ck.sh.va
  refine qC (.q 0 (.q 1 (.q 2 (.q 3 ((.l 4 [] (.q 5 ((.l 6 [] (.done)))))))))) Kr ?_
  refine qK rfl rfl rfl rfl (qX rfl rfl rfl rfl (qL (k:=6) rfl rfl rfl rfl υ'81 rfl ζ'79 rfl ?_))
  refine qP (j:=6) rfl rfl rfl rfl α'79 Tk Az (by rfl) ?_
  refine cK (A:=own 4 encF va vc V) Tk ?_
  refine rQ fun f_6a f_6b f_6c=>?_
  have sp_7:=clonef_spec V va x.vs.length vc (own 4 encF va vc V) (by exact hV) (sD encF_len (fun h=>(f_6b h).1) f_6c) Om
  refine qM rfl rfl rfl rfl rfl rfl Try.call66 (sp_7) Ts ?_
  rintro ⟨wa,wc⟩ -
  try simp only [List.cons_append,List.nil_append]
  refine qV (qL (k:=6) rfl rfl rfl rfl υ'81 rfl ζ'79 rfl ?_)
  refine kR (j:=6) rfl rfl rfl rfl ζ'79 (us:=[_]) rfl rfl rfl Tk Az (by first | decide | (simp;done) | omega) ?_
  simp only [setL,List.set]
  refine qV (qS (qW [3] (e':=[(3,_)]) rfl ?_))
  refine qQ (qG (qG (qC (.q 0 (.q 1 (.q 2 (.q 3 (.done))))) Kr ?_)))
  refine qL (k:=6) rfl rfl rfl rfl υ'81 rfl ζ'79 rfl ?_
  refine qP (j:=6) rfl rfl rfl rfl α'79 Tk Az (by rfl) ?_
  refine cH rfl rfl rfl rfl υ'79 ?_
  refine qK rfl rfl rfl rfl (qS (qQ (kS (s_restL_nil (res:=fvarA) ?_))))
  refine cD (α:=Nat × List P4F) (fun (x_:Nat × List P4F)=>match x_ with | (k,GV)=>k≤x.vs.length∧(GV.length=k)) (fun (x_:Nat × List P4F)=>match x_ with | (k,GV)=>[(72,.int .i64 ((k:Nat):Int))]) (fun (x_:Nat × List P4F)=>match x_ with | (k,GV)=>[restL fvarA V x.vs [],restL fvarA GV (x.vs.take k) [],cells b3 0 [.pointer (some ⟨cq,0,none⟩),.slice po x.v.ck.pa.length poc,.map (some n1),.map (some n2),.map (some n3),.map (some n4),.slice wa x.vs.length wc,.int .i64 x.cost],own 4 encF wa wc (GV++V.drop k)]) (fun (x_:Nat × List P4F)=>match x_ with | (k,GV)=>x.vs.length - k) [3,71] (er:=[(3,_),(71,_)]) rfl (0,[]) ?_ (by exact ⟨rfl,trivial⟩) (by (try dsimp only);(try simp only [Nat.add_zero,Nat.zero_add]);rw [List.take_zero,List.nil_append,List.drop_zero];(repeat ((with_reducible apply Z2);focus (first | (with_reducible (repeat (first | exact Z0 | apply Z1));done) | (repeat (first | exact Z0 | apply Z1)))));exact Z3) ?_
  · exact ⟨Nat.zero_le _,rfl⟩
  rintro ⟨k,GV⟩ ⟨hle_k,hGV⟩
  try simp only [List.cons_append,List.nil_append]
  refine qG (qC (.q 0 (.done)) Kr ?_)
  refine qN rfl rfl rfl rfl rfl (sK _ _ _ _) ?_
  refine qS (qQ (qG ?_))
  refine qB rfl (fun hlt=>?_) (fun hlt=>?_)
  ·
   refine qF (qQ (qG (kS (qG (qC (.q 0 (.q 1 (.done))) Kr ?_)))))
   refine qK rfl rfl rfl rfl (qR rfl rfl rfl rfl (qS (qQ (kX rfl (.q 0 (.q 1 (.q 2 (.q 3 (.q 4 (.q 5 (.q 6 (.q 7 (.q 8 ((.l 9 [1] (.q 10 (.q 11 ((.l 12 [] (.done)))))))))))))))) Kr ?_))))
   obtain ⟨w,hw⟩:=cP (l:=x.vs) (i:=k) Om
   obtain ⟨hw0,hr0,hws,-,-⟩:=hx.vs w (List.mem_of_getElem? hw)
   obtain ⟨ww,wr,ws,wf⟩:=w
   refine s_restL_take (res:=fvarA) (V:=V) (Y:=x.vs) (S:=[]) k Tk (by simp) hw fun v_ hv_=>?_
   obtain ⟨w0_,r0,so,f0⟩:=v_
   refine s_fvar Tk fun he1 he2 he3=>?_
   simp only at he1 he2 he3
   subst he1 he2 he3
   have hkV:=(List.getElem?_eq_some_iff.1 hv_).1
   have hg2:(GV++V.drop k)[k]?=some (w0_,r0,so,f0):=(app_get hGV).trans hv_
   rcases (show ws=none∨∃ s,ws=some s by cases ws <;> simp) with rfl | ⟨s,rfl⟩
   ·
    refine s_optN (a:=so) Tk fun hso=>?_
    subst hso
    refine qL (k:=6) rfl rfl rfl rfl υ'81 rfl ζ'79 rfl ?_
    refine qP (j:=6) rfl rfl rfl rfl α'79 Tk Az (by rfl) ?_
    refine qK rfl rfl rfl rfl (qL (k:=6) rfl rfl rfl rfl υ'81 rfl ζ'79 rfl ?_)
    refine qP (j:=6) rfl rfl rfl rfl α'79 Tk Az (by rfl) ?_
    refine qK rfl rfl rfl rfl (kY (sz:=3) (k:=k) (enc:=encF) (xs:=(GV++V.drop k)) rfl rfl rfl rfl rfl υ'79 ζ'88 hg2 (by first | rfl | omega) Om Tk ?_)
    intro ib81 io81 ha81 hl81 hc81
    refine qL (k:=2) rfl rfl rfl rfl υ'88 rfl ζ'86 rfl ?_
    refine kQ (v:=(.pointer none)) (j:=2) (k':=k) (enc:=encF) (off:=io81) rfl rfl rfl rfl α'86 ha81 encF_len hg2 Tk (by first | rfl | exact (Nat.add_zero _).symm | omega) (by rfl) ?_
    have sp_8:=ccopyn
    refine qM rfl rfl rfl rfl rfl rfl κ'65 (sp_8) Ts ?_
    rintro ⟨⟩ -
    try simp only [List.cons_append,List.nil_append]
    refine qH (q:=6) rfl rfl rfl α'79 Tk Az (by rfl) ?_
    refine qV (kY (sz:=3) (k:=k) (enc:=encF) (xs:=(GV++V.drop k)) rfl rfl rfl rfl rfl υ'79 ζ'88 hg2 (by first | rfl | omega) Om Tk ?_)
    intro ib85 io85 ha85 hl85 hc85
    refine qL (k:=2) rfl rfl rfl rfl υ'88 rfl ζ'86 rfl ?_
    refine kJ (j:=2) (k:=k) (q:=(w0_,r0,none,f0)) (enc:=encF) (off:=io85) rfl rfl rfl rfl ζ'86 (us:=[_]) rfl rfl rfl ha85 encF_len hg2 Tk (by first | rfl | exact (Nat.add_zero _).symm | omega) (by first | decide | exact Nat.le_of_ble_eq_true rfl) (by rfl) ?_
    refine qV (qS (qW [3,71,72] (e':=[(3,_),(71,_),(72,_)]) rfl ?_))
    refine kK (qQ (qC (.q 0 (.q 1 (.done))) Kr ?_))
    refine qN rfl rfl rfl rfl rfl (cV _ (by exact kG Om Om)) ?_
    refine qK rfl rfl rfl rfl (qS (qQ (s_optNF ?_)))
    refine s_fvarF (w0_,r0,none,f0) (w0_,r0,none,f0) Td rfl rfl rfl ?_
    refine s_restL_back (res:=fvarA) (V:=V) (Y:=x.vs) (S:=[]) k Ts (by simp) hv_ hw ?_
    refine s_optNF ?_
    refine s_fvarF (w0_,r0,none,f0) (w0_,r0,none,f0) Td rfl rfl rfl ?_
    refine s_restL_push (V:=GV) (Y:=x.vs.take k) (w0_,r0,none,f0) (w0_,r0,none,f0) Ts (by rw [hGV,List.length_take];omega) ?_
    rw [← take_snoc hw,app_set ((w0_,r0,none,f0):P4F) hGV hkV]
    refine cQ (x:=(k,GV)) ((k+1,GV++[(w0_,r0,none,f0)])) ?_ ?_ ?_ ?_
    · try dsimp only
      exact ⟨by omega,by simp [hGV]⟩
    · show x.vs.length - (k+1) < x.vs.length - k;omega
    · exact ⟨rfl,rfl,rfl,trivial⟩
    · (try simp only [List.cons_append,List.nil_append]);exact Tf
   refine s_optS (a:=so) (l:=s) Tk fun sb sa sc hso=>?_
   subst hso
   have hsl:=(hws s rfl).len
   refine qL (k:=6) rfl rfl rfl rfl υ'81 rfl ζ'79 rfl ?_
   refine qP (j:=6) rfl rfl rfl rfl α'79 Tk Az (by rfl) ?_
   refine qK rfl rfl rfl rfl (qL (k:=6) rfl rfl rfl rfl υ'81 rfl ζ'79 rfl ?_)
   refine qP (j:=6) rfl rfl rfl rfl α'79 Tk Az (by rfl) ?_
   refine qK rfl rfl rfl rfl (kY (sz:=3) (k:=k) (enc:=encF) (xs:=(GV++V.drop k)) rfl rfl rfl rfl rfl υ'79 ζ'88 hg2 (by first | rfl | omega) Om Tk ?_)
   intro ib81 io81 ha81 hl81 hc81
   refine qL (k:=2) rfl rfl rfl rfl υ'88 rfl ζ'86 rfl ?_
   refine kQ (v:=(.pointer (some ⟨sb,0,none⟩))) (j:=2) (k':=k) (enc:=encF) (off:=io81) rfl rfl rfl rfl α'86 ha81 encF_len hg2 Tk (by first | rfl | exact (Nat.add_zero _).symm | omega) (by rfl) ?_
   have sp_9:=Vc.copy_spec sb s sa s.length sc (by rfl) Om
   refine qM rfl rfl rfl rfl rfl rfl κ'65 (sp_9) Ts ?_
   rintro ⟨qb,qa,qc⟩ -
   try simp only [List.cons_append,List.nil_append]
   refine qH (q:=6) rfl rfl rfl α'79 Tk Az (by rfl) ?_
   refine qV (kY (sz:=3) (k:=k) (enc:=encF) (xs:=(GV++V.drop k)) rfl rfl rfl rfl rfl υ'79 ζ'88 hg2 (by first | rfl | omega) Om Tk ?_)
   intro ib85 io85 ha85 hl85 hc85
   refine qL (k:=2) rfl rfl rfl rfl υ'88 rfl ζ'86 rfl ?_
   refine kJ (j:=2) (k:=k) (q:=(w0_,r0,(some ⟨qb,0,none⟩),f0)) (enc:=encF) (off:=io85) rfl rfl rfl rfl ζ'86 (us:=[_]) rfl rfl rfl ha85 encF_len hg2 Tk (by first | rfl | exact (Nat.add_zero _).symm | omega) (by first | decide | exact Nat.le_of_ble_eq_true rfl) (by rfl) ?_
   refine qV (qS (qW [3,71,72] (e':=[(3,_),(71,_),(72,_)]) rfl ?_))
   refine kK (qQ (qC (.q 0 (.q 1 (.done))) Kr ?_))
   refine qN rfl rfl rfl rfl rfl (cV _ (by exact kG Om Om)) ?_
   refine qK rfl rfl rfl rfl (qS (qQ (s_vecF sb sa sc s Ts ?_)))
   refine s_optF Td ?_
   refine s_fvarF (w0_,r0,(some ⟨sb,0,none⟩),f0) (w0_,r0,some s,f0) Td rfl rfl rfl ?_
   refine s_restL_back (res:=fvarA) (V:=V) (Y:=x.vs) (S:=[]) k Ts (by simp) hv_ hw ?_
   refine s_vecF qb qa qc s Ts ?_
   refine s_optF Td ?_
   refine s_fvarF (w0_,r0,(some ⟨qb,0,none⟩),f0) (w0_,r0,some s,f0) Td rfl rfl rfl ?_
   refine s_restL_push (V:=GV) (Y:=x.vs.take k) (w0_,r0,(some ⟨qb,0,none⟩),f0) (w0_,r0,some s,f0) Ts (by rw [hGV,List.length_take];omega) ?_
   rw [← take_snoc hw,app_set ((w0_,r0,(some ⟨qb,0,none⟩),f0):P4F) hGV hkV]
   refine cQ (x:=(k,GV)) ((k+1,GV++[(w0_,r0,(some ⟨qb,0,none⟩),f0)])) ?_ ?_ ?_ ?_
   · try dsimp only
     exact ⟨by omega,by simp [hGV]⟩
   · show x.vs.length - (k+1) < x.vs.length - k;omega
   · exact ⟨rfl,rfl,rfl,trivial⟩
   · (try simp only [List.cons_append,List.nil_append]);exact Tf
  refine cM (qZ (qZ (kV (qQ (qG (qC (.q 0 (.done)) Kr ?_))))))
  refine qR rfl rfl rfl rfl (qS (qW [2] (e':=[(2,_)]) rfl ?_))
  refine qQ (qJ ?_)
  obtain rfl:k=x.vs.length:=by omega
  rw [List.take_length,List.drop_of_length_le Om,List.append_nil]
  refine df_fold (b:=b) x (pa:=pa) (pc:=pc) (po:=po) (poc:=poc) (cb:=cb) (m1:=m1) (m2:=m2) (m3:=m3) (m4:=m4) (va:=va) (vc:=vc) (F1:=F1) (F2:=F2) (F3:=F3) (F4:=F4) (V:=V) Ts (by rfl) (by rfl) (by rfl) (by first | exact hV | simp) ?_
  refine df_fold (b:=b3) x (pa:=pa) (pc:=pc) (po:=po) (poc:=poc) (cb:=cq) (m1:=n1) (m2:=n2) (m3:=n3) (m4:=n4) (va:=wa) (vc:=wc) (F1:=Gn1) (F2:=Gn2) (F3:=Gn3) (F4:=(rs vis G)) (V:=GV) Ts (by rfl) (by rfl) (by rfl) (by first | exact hGV | simp) ?_
  refine cR rfl rfl (b3) (by first | rfl | (first | rfl | (congr 1;done) | (congr 1 <;> first | rfl | omega | (simp;done) | (simp;omega)))) (by trivial) ?_
  exact Tf
 intro k_ v_ hkv hnk hltN
 refine qV (s_rest_takeF (F:=F4) (T:=x.v.rd) (S:=[]) k_ Tk (by simp) hkv fun p ht=>?_)
 obtain ⟨l,z⟩:=p
 refine s_kept Tk fun kb ka kc hkb=>?_
 subst hkb
 dsimp only
 have hll:=(hx.v.rdc _ _ ht).len
 simp only at hll
 refine kW rfl rfl rfl rfl rfl (qS (qQ (qG (cN rfl ?_))))
 refine qF (qQ (kS (qG (qC (.q 0 (.q 1 (.q 2 ((.l 3 [] ((.l 4 [] (.q 5 (.done))))))))) Kr ?_))))
 refine q_entry (ek:=ek2) (ev1:=evA) (F:=F4) (m:=m4) (vis:=vis) (N:=N_rr) (k:=k_) (v:=(some ⟨kb,0,none⟩)) rfl rfl rfl rfl hkv Tk ?_
 refine kW rfl rfl rfl rfl rfl (kW rfl rfl rfl rfl rfl (kH 47 rfl (v':=.pointer (some ⟨kb,0,none⟩)) (by rfl) ?_))
 refine cF rfl rfl rfl ω'125 (zs:=[.int .i64 0,.int .i64 0]) rfl ?_
 intro b4
 refine qV (kR (j:=0) rfl rfl rfl rfl ζ'125 (us:=[_,_]) rfl rfl rfl Tk Az (by first | decide | (simp;done) | omega) ?_)
 simp only [setL,List.set]
 refine qV (qR rfl rfl rfl rfl (qS (qW [0,3,4,5,42] (e':=[(0,_),(3,_),(4,_),(5,_),(42,_)]) rfl ?_)))
 refine qQ (kX rfl (.q 0 (.q 1 (.q 2 (.q 3 (.q 4 (.q 5 (.q 9 (.q 10 (.q 11 (.q 12 ((.l 6 [1,2,12] (.q 7 (.q 8 (.q 13 ((.l 14 [1,2] ((.l 15 [] (.done)))))))))))))))))))) Kr ?_)
 refine qL (k:=5) rfl rfl rfl rfl υ'81 rfl ζ'78 rfl ?_
 refine qP (j:=5) rfl rfl rfl rfl α'78 Tk Az (by rfl) ?_
 refine kN rfl rfl rfl rfl α'125 ζ'125 Tk 0 (us:=[_,_]) Az rfl rfl ?_
 refine qK rfl rfl rfl rfl (qX rfl rfl rfl rfl (qL (k:=0) rfl rfl rfl rfl υ'136 rfl ζ'134 rfl ?_))
 refine qK rfl rfl rfl rfl (qX rfl rfl rfl rfl (qL (k:=1) rfl rfl rfl rfl υ'136 rfl ζ'3 rfl ?_))
 refine qP (j:=1) rfl rfl rfl rfl α'3 Tk Az (by rfl) ?_
 have sp_10:=copyk_spec kb l ka l.length kc (by rfl) Om (.int .i64 z)
 refine qM rfl rfl rfl rfl rfl rfl κ'65 (sp_10) Ts ?_
 rintro ⟨qb,qa,qc⟩ -
 try simp only [List.cons_append,List.nil_append]
 refine qH (q:=5) rfl rfl rfl α'78 Tk Az (by rfl) ?_
 refine cZ rfl rfl (us:=[_,_]) rfl α'125 ζ'125 Tk 0 Az rfl rfl ?_
 refine qH (q:=1) rfl rfl rfl α'3 Tk Az (by rfl) ?_
 refine qV (qX rfl rfl rfl rfl (kN rfl rfl rfl rfl Try.isAgg134 ζ'134 Tk 0 (us:=[_]) Az rfl rfl ?_))
 refine cX rfl rfl rfl rfl (vs:=[_,_]) (kM υ'136 Try.zeroValue136 (ps:=[(0,1),(1,1)]) ⟨rfl,ζ'134,rfl,ζ'3,trivial⟩ rfl) ?_
 refine sX rfl rfl rfl rfl (us:=[_,_]) rfl ?_
 intro b62
 refine qH (q:=5) rfl rfl rfl α'78 Tk Az (by rfl) ?_
 refine cZ rfl rfl (us:=[_,_]) rfl α'125 ζ'125 Tk 0 Az rfl rfl ?_
 refine qV (sF (ek:=ek2) (ev1:=evA) (F:=(rs vis G)) (m:=n4) (k:=(k_.1,k_.2)) (v:=(some ⟨b62,0,none⟩:Option Addr)) (by first | exact .inl rfl | exact .inr rfl) rfl rfl rfl rfl υ'78 (sJ υ'125 rfl rfl rfl rfl υ'3 υ'3 α'3 α'3 Kr) Tk ?_)
 refine qV (qS (qW [0,3,42] (e':=[(0,_),(3,_),(42,_)]) rfl ?_))
 refine kK (qQ (s_keptF kb ka kc l z Ts ?_))
 refine sG (F:=F4) (T:=x.v.rd) (S:=[]) k_ F4 x.v.rd Ts (by simp) hkv (fun _ _ _=>rfl) ht (fun _ _ _=>rfl) ?_
 refine s_keptF b62 qa qc l z Ts ?_
 refine s_rest_next (G:=G) (T:=x.v.rd) (S:=vis) k_ Ts hnk ht ?_
 rw [show ((k_.1,k_.2):Int × Int)=k_ from rfl,rs_next]
 refine cQ (x:=(vis,G)) ((vis++[k_],upd G k_ (some (some ⟨b62,0,none⟩)))) ?_ ?_ ?_ ?_
 · try dsimp only
   exact nodup_snoc hnd hnk
 · show N_rr - (vis++[k_]).length < N_rr - vis.length;rw [List.length_append];simp;omega
 · exact ⟨rfl,rfl,rfl,trivial⟩
 · (try simp only [List.cons_append,List.nil_append]);exact Tf
end Go.Ab.Fa
set_option linter.unusedVariables false
set_option linter.unusedSimpArgs false
set_option maxRecDepth 100000
namespace Go.Ab.Fr
open Go Go.Proofs Go.Ab Go.Ab.Fe Go.Ab.Vc Go.Ab.Dj Go.Ab.Fa
/-- Lists that were told, and what must stand in them. -/
structure BK where
  C:List (LstA Int)
  W:List (LstA Int)
  F:List (LstA T2)
  G:List (LstA T2)
structure BOk (n:Nat) (B:BK):Prop where
  c:B.C.map (·.2.2)=B.W.map (·.2.2)
  f:B.F.map (·.2.2)=B.G.map (·.2.2)
  cb:∀ x∈B.C,x.2.2.length≤65535
  fb:∀ x∈B.F,x.2.2.length≤65535
  cn:B.C.length≤n
  fn:B.F.length≤n
theorem bok_nil:BOk 0 ⟨[],[],[],[]⟩:=⟨rfl,rfl,fun x h=>(by cases h),fun x h=>(by cases h),Nat.le_refl _,Nat.le_refl _⟩
theorem bok_c {n:Nat} {B:BK} (h:BOk n B) {x y:LstA Int} (e:x.2.2=y.2.2) (hl:x.2.2.length≤65535):BOk (n+1) ⟨B.C++[x],B.W++[y],B.F,B.G⟩ :=
  ⟨by rw [List.map_append,List.map_append,h.c];simp [e],h.f,fun z hz=>by
    rcases List.mem_append.1 hz with hz | hz
    · exact h.cb z hz
    · simp only [List.mem_singleton] at hz;rw [hz];exact hl,h.fb,by have:=h.cn;simp;omega,by have:=h.fn;show B.F.length≤_;omega⟩
theorem bok_f {n:Nat} {B:BK} (h:BOk n B) {x y:LstA T2} (e:x.2.2=y.2.2) (hl:x.2.2.length≤65535):BOk (n+1) ⟨B.C,B.W,B.F++[x],B.G++[y]⟩ :=
  ⟨h.c,by rw [List.map_append,List.map_append,h.f];simp [e],h.cb,fun z hz=>by
    rcases List.mem_append.1 hz with hz | hz
    · exact h.fb z hz
    · simp only [List.mem_singleton] at hz;rw [hz];exact hl,by have:=h.cn;show B.C.length≤_;omega,by have:=h.fn;simp;omega⟩
theorem bok_more {n m:Nat} {B:BK} (h:BOk n B) (hn:n≤m):BOk m B:=⟨h.c,h.f,h.cb,h.fb,Nat.le_trans h.cn hn,Nat.le_trans h.fn hn⟩
theorem same_at {α:Type} {C W:List (LstA α)} (h:C.map (·.2.2)=W.map (·.2.2)) {i:Nat} {x y:LstA α} (hx:C[i]?=some x) (hy:W[i]?=some y):x.2.2=y.2.2:=by
  have h1:(C.map (·.2.2))[i]?=some x.2.2:=by rw [List.getElem?_map,hx];rfl
  have h2:(W.map (·.2.2))[i]?=some y.2.2:=by rw [List.getElem?_map,hy];rfl
  rw [h,h2] at h1;exact (Option.some.inj h1).symm
def bookR (b:Nat) (B:BK):HProp:=fun h=>∃ ca cc wa wc fa fc ga gc,Sat [cells b 0 [.slice ca B.C.length cc,.slice wa B.W.length wc,.slice none 0 0,.slice fa B.F.length fc,.slice ga B.G.length gc,.slice none 0 0],
  own 1 encH ca cc B.C,own 1 encH wa wc B.W,own 1 encH fa fc B.F,own 1 encH ga gc B.G,bigS (owA 1 encU) B.C,bigS (owA 1 encU) B.W,bigS (owA 2 enc2) B.F,bigS (owA 2 enc2) B.G] h
section
variable {w0:World} {ds:List Deferred} {n:Nat} {e:Env} {Γ Γ':List HProp} {X:Act→World→Prop}
theorem bk_open {b:Nat} {B:BK} (k:∀ ca cc wa wc fa fc ga gc,Le (St w0 ds n e (cells b 0 [.slice ca B.C.length cc,.slice wa B.W.length wc,.slice none 0 0,.slice fa B.F.length fc,.slice ga B.G.length gc,.slice none 0 0] ::
    own 1 encH ca cc B.C::own 1 encH wa wc B.W::own 1 encH fa fc B.F::own 1 encH ga gc B.G::bigS (owA 1 encU) B.C::bigS (owA 1 encU) B.W::bigS (owA 2 enc2) B.F::bigS (owA 2 enc2) B.G::Γ)) X):Le (St w0 ds n e (bookR b B::Γ)) X:=fun a w s=>by
  obtain ⟨h1,l1,⟨ca,cc,wa,wc,fa,fc,ga,gc,a1⟩,s1⟩:=s.heap
  exact k ca cc wa wc fa fc ga gc a w ⟨s.defers,s.size,s.env,Bun.unfold ⟨h1,l1,a1,s1⟩,s.amb⟩
theorem bk_fold {b:Nat} {C W:List (LstA Int)} {F G:List (LstA T2)} {ca wa fa ga:Option Addr} {cc wc fc gc n1 n2 n3 n4:Nat} (tk:Takes Γ [cells b 0 [.slice ca n1 cc,.slice wa n2 wc,.slice none 0 0,.slice fa n3 fc,.slice ga n4 gc,.slice none 0 0],
    own 1 encH ca cc C,own 1 encH wa wc W,own 1 encH fa fc F,own 1 encH ga gc G,bigS (owA 1 encU) C,bigS (owA 1 encU) W,bigS (owA 2 enc2) F,bigS (owA 2 enc2) G] Γ') (h1:n1=C.length) (h2:n2=W.length) (h3:n3=F.length) (h4:n4=G.length)
    (k:Le (St w0 ds n e (bookR b ⟨C,W,F,G⟩::Γ')) X):Le (St w0 ds n e Γ) X:=kF (fun h s=>by
  subst h1 h2 h3 h4
  obtain ⟨h1,l1,a1,s1⟩:=Bun.fold (tk h s)
  exact ⟨h1,l1,⟨ca,cc,wa,wc,fa,fc,ga,gc,a1⟩,s1⟩) k
end
def wmC (i k:Nat):Int:=1099511627776+1000*(i:Int)+(k:Int)
def wvC (i k:Nat):Int:=1125899906842624+(i:Int)
def wmF (i k:Nat):T2:=(-1 - (i:Int),(k:Int))
def wvF (i k:Nat):T2:=(-1 - (i:Int),-1)
theorem rcopy_spec (pa:Option Addr) (pc b:Nat) (M:List H) (x:FS) (hx:FInv x) (hn:x.v.ck.n≤4000000):Spec Try.prog 23 [.pointer (some ⟨b,0,none⟩)] [rfR pa pc b M x] (fun (r:Nat)=>.pointer (some ⟨r,0,none⟩)) (fun r=>True) (fun r=>[rfR pa pc b M x,rfR pa pc r M x]):=by
 refine kP (n:=78) Try.func23 rfl rfl rfl ?_
 intro Γ w0
 simp only [argE,List.cons_append,List.nil_append,Nat.zero_add,Nat.reduceAdd]
 refine qG (qC (.q 0 (.done)) Kr ?_)
 refine qR rfl rfl rfl rfl (qS (qQ (qG (qG ?_))))
 have hcc:=hx.c0
 have hlen:=hx.len
 have hsh:=hx.v.ck.sh
 have hs1:=hsh.th
 have hs2:=hsh.va
 have hs3:=hsh.vo
 have hs4:=hsh.lk
 refine cK (A:=rfR pa pc b M x) Tk ?_
 refine rf_open fun cb Va Vc La Lc Oa Oc Ra Rc Xa Xc r hR hP=>?_
 have hVn:=hR.Vn
 have hLn:=hR.Ln
 have hOn:=hR.On
 have hXn:=hR.Xn
 have hRl:=hR.Rl
 refine qC (.q 0 (.q 1 (.done))) Kr ?_
 refine qK rfl rfl rfl rfl (cY rfl rfl rfl rfl υ'31 ?_)
 refine kH 5 rfl (v':=.bool false) rfl ?_
 refine qS (qQ (kB rfl ?_))
 refine qF (qQ (qG (kX rfl (.q 0 (.q 1 (.q 2 (.q 3 (.q 5 (.q 6 (.q 7 (.q 8 ((.l 4 [8] (.q 9 ((.l 10 [] (.q 11 (.done))))))))))))))) Kr ?_)))
 refine qK rfl rfl rfl rfl (qX rfl rfl rfl rfl (qL (k:=0) rfl rfl rfl rfl υ'97 rfl ζ'91 rfl ?_))
 refine qP (j:=0) rfl rfl rfl rfl α'91 Tk Az (by rfl) ?_
 refine qK rfl rfl rfl rfl (qX rfl rfl rfl rfl (qL (k:=6) rfl rfl rfl rfl υ'97 rfl ζ'3 rfl ?_))
 refine qP (j:=6) rfl rfl rfl rfl α'3 Tk Az (by rfl) ?_
 have sp_1:=Fe.rcopy_spec pa pc cb x.v.ck hx.v.ck
 refine qM rfl rfl rfl rfl rfl rfl Try.call67 (sp_1) Ts ?_
 rintro cq -
 try simp only [List.cons_append,List.nil_append]
 refine qH (q:=6) rfl rfl rfl α'3 Tk Az (by rfl) ?_
 refine qV (cX rfl rfl rfl rfl (vs:=[_,_,_,_,_,_,_]) (kM υ'97 ω'97 (ps:=[(0,1),(1,1),(2,1),(3,1),(4,1),(5,1),(6,1)]) ⟨rfl,ζ'91,rfl,ζ'66,rfl,ζ'66,rfl,ζ'66,rfl,ζ'94,rfl,ζ'95,rfl,ζ'3,trivial⟩ rfl) ?_)
 refine sX rfl rfl rfl rfl (us:=[_,_,_,_,_,_,_]) rfl ?_
 intro b16
 refine qV (qR rfl rfl rfl rfl (qS (qW [0,3] (e':=[(0,_),(3,_)]) rfl ?_)))
 refine qQ (qG (kX rfl (.q 0 (.q 1 (.q 2 (.q 3 (.q 4 (.q 5 (.q 6 (.q 7 (.q 8 ((.l 9 [] (.q 10 (.q 11 ((.l 12 [] (.done)))))))))))))))) Kr ?_))
 refine qK rfl rfl rfl rfl (qK rfl rfl rfl rfl (qX rfl rfl rfl rfl (qL (k:=1) rfl rfl rfl rfl υ'97 rfl ζ'66 rfl ?_)))
 refine qP (j:=1) rfl rfl rfl rfl α'66 Tk Az (by rfl) ?_
 refine qK rfl rfl rfl rfl (qX rfl rfl rfl rfl (qL (k:=1) rfl rfl rfl rfl υ'97 rfl ζ'66 rfl ?_))
 refine qP (j:=1) rfl rfl rfl rfl α'66 Tk Az (by rfl) ?_
 refine cK (A:=own 1 encH Va Vc r.V) Tk ?_
 refine rQ fun f_2a f_2b f_2c=>?_
 refine kF (fun _ h=>cJ (sz:=1) (enc:=(encH:H→List Value)) h) ?_
 refine sV (sz:=1) (enc:=encH) (xs:=[]) rfl rfl rfl rfl rfl υ'66 τ'50 rfl rfl rfl (by decide) Tk Tk (by first | rfl | omega | (simp;done) | (simp;omega)) (ys:=r.V) (sD kD (fun h=>(f_2b h).1) f_2c) (by rfl) (by first | rfl | omega) (kD) (encH_one) Om (by show _*24≤_;omega) ?_
 intro ao26 cp26
 try simp only [List.nil_append]
 refine kH 26 rfl (v':=.slice ao26 r.V.length cp26) (by first | rfl | (congr 1;done) | (congr 1 <;> first | rfl | omega | (simp;done) | (simp;omega))) ?_
 refine qV (qX rfl rfl rfl rfl (qL (k:=1) rfl rfl rfl rfl υ'97 rfl ζ'66 rfl ?_))
 refine kR (j:=1) rfl rfl rfl rfl ζ'66 (us:=[_]) rfl rfl rfl Tk Az (by first | decide | (simp;done) | omega) ?_
 simp only [setL,List.set]
 refine qV (qS (qW [0,3] (e':=[(0,_),(3,_)]) rfl ?_))
 refine qQ (qG (kX rfl (.q 0 (.q 1 (.q 2 (.q 3 (.q 4 (.q 5 (.q 6 (.q 7 (.q 8 ((.l 9 [] (.q 10 (.q 11 ((.l 12 [] (.done)))))))))))))))) Kr ?_))
 refine qK rfl rfl rfl rfl (qK rfl rfl rfl rfl (qX rfl rfl rfl rfl (qL (k:=2) rfl rfl rfl rfl υ'97 rfl ζ'66 rfl ?_)))
 refine qP (j:=2) rfl rfl rfl rfl α'66 Tk Az (by rfl) ?_
 refine qK rfl rfl rfl rfl (qX rfl rfl rfl rfl (qL (k:=2) rfl rfl rfl rfl υ'97 rfl ζ'66 rfl ?_))
 refine qP (j:=2) rfl rfl rfl rfl α'66 Tk Az (by rfl) ?_
 refine cK (A:=own 1 encH La Lc r.L) Tk ?_
 refine rQ fun f_3a f_3b f_3c=>?_
 refine kF (fun _ h=>cJ (sz:=1) (enc:=(encH:H→List Value)) h) ?_
 refine sV (sz:=1) (enc:=encH) (xs:=[]) rfl rfl rfl rfl rfl υ'66 τ'50 rfl rfl rfl (by decide) Tk Tk (by first | rfl | omega | (simp;done) | (simp;omega)) (ys:=r.L) (sD kD (fun h=>(f_3b h).1) f_3c) (by rfl) (by first | rfl | omega) (kD) (encH_one) Om (by show _*24≤_;omega) ?_
 intro ao38 cp38
 try simp only [List.nil_append]
 refine kH 38 rfl (v':=.slice ao38 r.L.length cp38) (by first | rfl | (congr 1;done) | (congr 1 <;> first | rfl | omega | (simp;done) | (simp;omega))) ?_
 refine qV (qX rfl rfl rfl rfl (qL (k:=2) rfl rfl rfl rfl υ'97 rfl ζ'66 rfl ?_))
 refine kR (j:=2) rfl rfl rfl rfl ζ'66 (us:=[_]) rfl rfl rfl Tk Az (by first | decide | (simp;done) | omega) ?_
 simp only [setL,List.set]
 refine qV (qS (qW [0,3] (e':=[(0,_),(3,_)]) rfl ?_))
 refine qQ (qG (kX rfl (.q 0 (.q 1 (.q 2 (.q 3 (.q 4 (.q 5 (.q 6 (.q 7 (.q 8 ((.l 9 [] (.q 10 (.q 11 ((.l 12 [] (.done)))))))))))))))) Kr ?_))
 refine qK rfl rfl rfl rfl (qK rfl rfl rfl rfl (qX rfl rfl rfl rfl (qL (k:=3) rfl rfl rfl rfl υ'97 rfl ζ'66 rfl ?_)))
 refine qP (j:=3) rfl rfl rfl rfl α'66 Tk Az (by rfl) ?_
 refine qK rfl rfl rfl rfl (qX rfl rfl rfl rfl (qL (k:=3) rfl rfl rfl rfl υ'97 rfl ζ'66 rfl ?_))
 refine qP (j:=3) rfl rfl rfl rfl α'66 Tk Az (by rfl) ?_
 refine cK (A:=own 1 encH Oa Oc r.O) Tk ?_
 refine rQ fun f_4a f_4b f_4c=>?_
 refine kF (fun _ h=>cJ (sz:=1) (enc:=(encH:H→List Value)) h) ?_
 refine sV (sz:=1) (enc:=encH) (xs:=[]) rfl rfl rfl rfl rfl υ'66 τ'50 rfl rfl rfl (by decide) Tk Tk (by first | rfl | omega | (simp;done) | (simp;omega)) (ys:=r.O) (sD kD (fun h=>(f_4b h).1) f_4c) (by rfl) (by first | rfl | omega) (kD) (encH_one) Om (by show _*24≤_;omega) ?_
 intro ao50 cp50
 try simp only [List.nil_append]
 refine kH 50 rfl (v':=.slice ao50 r.O.length cp50) (by first | rfl | (congr 1;done) | (congr 1 <;> first | rfl | omega | (simp;done) | (simp;omega))) ?_
 refine qV (qX rfl rfl rfl rfl (qL (k:=3) rfl rfl rfl rfl υ'97 rfl ζ'66 rfl ?_))
 refine kR (j:=3) rfl rfl rfl rfl ζ'66 (us:=[_]) rfl rfl rfl Tk Az (by first | decide | (simp;done) | omega) ?_
 simp only [setL,List.set]
 refine qV (qS (qW [0,3] (e':=[(0,_),(3,_)]) rfl ?_))
 refine qQ (qG (kX rfl (.q 0 (.q 1 (.q 2 (.q 3 (.q 4 (.q 5 (.q 6 (.q 7 (.q 8 ((.l 9 [] (.q 10 (.q 11 ((.l 12 [] (.done)))))))))))))))) Kr ?_))
 refine qK rfl rfl rfl rfl (qK rfl rfl rfl rfl (qX rfl rfl rfl rfl (qL (k:=4) rfl rfl rfl rfl υ'97 rfl ζ'94 rfl ?_)))
 refine qP (j:=4) rfl rfl rfl rfl α'94 Tk Az (by rfl) ?_
 refine qK rfl rfl rfl rfl (qX rfl rfl rfl rfl (qL (k:=4) rfl rfl rfl rfl υ'97 rfl ζ'94 rfl ?_))
 refine qP (j:=4) rfl rfl rfl rfl α'94 Tk Az (by rfl) ?_
 refine cK (A:=own 3 encR Ra Rc r.R) Tk ?_
 refine rQ fun f_5a f_5b f_5c=>?_
 refine kF (fun _ h=>cJ (sz:=3) (enc:=encR) h) ?_
 refine sV (sz:=3) (enc:=encR) (xs:=[]) rfl rfl rfl rfl rfl υ'94 Try.typeInfo115 rfl rfl rfl (by decide) Tk Tk (by first | rfl | omega | (simp;done) | (simp;omega)) (ys:=r.R) (sD encR_len (fun h=>(f_5b h).1) f_5c) (by rfl) (by first | rfl | omega) (encR_len) (encR_one) Om (by show _*40≤_;omega) ?_
 intro ao62 cp62
 try simp only [List.nil_append]
 refine kH 62 rfl (v':=.slice ao62 r.R.length cp62) (by first | rfl | (congr 1;done) | (congr 1 <;> first | rfl | omega | (simp;done) | (simp;omega))) ?_
 refine qV (qX rfl rfl rfl rfl (qL (k:=4) rfl rfl rfl rfl υ'97 rfl ζ'94 rfl ?_))
 refine kR (j:=4) rfl rfl rfl rfl ζ'94 (us:=[_]) rfl rfl rfl Tk Az (by first | decide | (simp;done) | omega) ?_
 simp only [setL,List.set]
 refine qV (qS (qW [0,3] (e':=[(0,_),(3,_)]) rfl ?_))
 refine qQ (qG (kX rfl (.q 0 (.q 1 (.q 2 (.q 3 (.q 4 (.q 5 (.q 6 (.q 7 (.q 8 ((.l 9 [] (.q 10 (.q 11 ((.l 12 [] (.done)))))))))))))))) Kr ?_))
 refine qK rfl rfl rfl rfl (qK rfl rfl rfl rfl (qX rfl rfl rfl rfl (qL (k:=5) rfl rfl rfl rfl υ'97 rfl ζ'95 rfl ?_)))
 refine qP (j:=5) rfl rfl rfl rfl α'95 Tk Az (by rfl) ?_
 refine qK rfl rfl rfl rfl (qX rfl rfl rfl rfl (qL (k:=5) rfl rfl rfl rfl υ'97 rfl ζ'95 rfl ?_))
 refine qP (j:=5) rfl rfl rfl rfl α'95 Tk Az (by rfl) ?_
 refine cK (A:=own 7 encX Xa Xc r.X) Tk ?_
 refine rQ fun f_6a f_6b f_6c=>?_
 refine kF (fun _ h=>cJ (sz:=7) (enc:=encX) h) ?_
 refine sV (sz:=7) (enc:=encX) (xs:=[]) rfl rfl rfl rfl rfl υ'95 Try.typeInfo99 rfl rfl rfl (by decide) Tk Tk (by first | rfl | omega | (simp;done) | (simp;omega)) (ys:=r.X) (sD encX_len (fun h=>(f_6b h).1) f_6c) (by rfl) (by first | rfl | omega) (encX_len) (encX_one) Om (by show _*72≤_;omega) ?_
 intro ao74 cp74
 try simp only [List.nil_append]
 refine kH 74 rfl (v':=.slice ao74 r.X.length cp74) (by first | rfl | (congr 1;done) | (congr 1 <;> first | rfl | omega | (simp;done) | (simp;omega))) ?_
 refine qV (qX rfl rfl rfl rfl (qL (k:=5) rfl rfl rfl rfl υ'97 rfl ζ'95 rfl ?_))
 refine kR (j:=5) rfl rfl rfl rfl ζ'95 (us:=[_]) rfl rfl rfl Tk Az (by first | decide | (simp;done) | omega) ?_
 simp only [setL,List.set]
 refine qV (qS (qW [3] (e':=[(3,_)]) rfl ?_))
 refine qQ (qG (qC (.q 0 (.q 1 (.done))) Kr ?_))
 refine qK rfl rfl rfl rfl (qR rfl rfl rfl rfl (qS (qQ (qJ (rf_fold (b:=b) (M:=M) x r (pa:=pa) (pc:=pc) (cb:=cb) (Va:=Va) (Vc:=Vc) (La:=La) (Lc:=Lc) (Oa:=Oa) (Oc:=Oc) (Ra:=Ra) (Rc:=Rc) (Xa:=Xa) (Xc:=Xc) Ts rfl (by rfl) (by rfl) (by rfl) (by rfl) (by rfl) rfl rfl hR hP ?_)))))
 refine rf_fold (b:=b16) (M:=M) x r (pa:=pa) (pc:=pc) (cb:=cq) (Va:=ao26) (Vc:=cp26) (La:=ao38) (Lc:=cp38) (Oa:=ao50) (Oc:=cp50) (Ra:=ao62) (Rc:=cp62) (Xa:=ao74) (Xc:=cp74) Ts rfl (by rfl) (by rfl) (by rfl) (by rfl) (by rfl) rfl rfl hR hP ?_
 refine cR rfl rfl (b16) (by first | rfl | (first | rfl | (congr 1;done) | (congr 1 <;> first | rfl | omega | (simp;done) | (simp;omega)))) (by trivial) ?_
 exact Tf
theorem bclocks_spec (b:Nat) (B:BK) (xs ys:List Int) (ao bo:Option Addr) (n c m d:Nat) (hn:xs.length=n) (hm:ys.length=m) (hC:B.C.length≤4000000) (hW:B.W.length≤4000000) (hF:B.F.length≤4000000) (hG:B.G.length≤4000000):Spec Try.prog 68 [.pointer (some ⟨b,0,none⟩),.slice ao n c,.slice bo m d] [bookR b B,own 1 encU ao c xs,own 1 encU bo d ys] (fun (_:Unit)=>.tuple #[]) (fun _=>True) (fun _=>[bookR b ⟨(B.C++[(ao,c,xs)]),(B.W++[(bo,d,ys)]),B.F,B.G⟩]):=by
 refine kP (n:=26) Try.func68 rfl rfl rfl ?_
 intro Γ w0
 simp only [argE,List.cons_append,List.nil_append,Nat.zero_add,Nat.reduceAdd]
 subst hn hm
 refine qG (cK (A:=bookR b B) Tk ?_)
 refine bk_open fun ca cc wa wc fa fc ga gc=>?_
 refine qC (.q 0 (.q 1 (.q 2 (.q 3 (.q 4 (.q 5 ((.l 6 [] ((.l 7 [] (.q 8 (.q 9 ((.l 10 [] (.done))))))))))))))) Kr ?_
 refine qK rfl rfl rfl rfl (qK rfl rfl rfl rfl (qX rfl rfl rfl rfl (qL (k:=0) rfl rfl rfl rfl υ'69 rfl ζ'66 rfl ?_)))
 refine qP (j:=0) rfl rfl rfl rfl α'66 Tk Az (by rfl) ?_
 refine qK rfl rfl rfl rfl (cG rfl rfl rfl rfl (cB (us:=[_]) υ'66 ζ'50 rfl Try.zeroValue50 rfl rfl rfl) ?_)
 intro b12
 refine qV (sV (sz:=1) (enc:=encH) (xs:=B.C) rfl rfl rfl rfl rfl υ'66 τ'50 rfl rfl rfl (by decide) Tk Tk (by first | rfl | omega | (simp;done) | (simp;omega)) (ys:=[((ao,c,xs):LstA Int)]) (sW sC) (by rfl) (by first | rfl | omega) (kD) (encH_one) Om (by show _*24≤_;omega) ?_)
 intro ao13 cp13
 refine qV (qX rfl rfl rfl rfl (qL (k:=0) rfl rfl rfl rfl υ'69 rfl ζ'66 rfl ?_))
 refine kR (j:=0) rfl rfl rfl rfl ζ'66 (us:=[_]) rfl rfl rfl Tk Az (by first | decide | (simp;done) | omega) ?_
 simp only [setL,List.set]
 refine qV (qS (qW [0,2] (e':=[(0,_),(2,_)]) rfl ?_))
 refine qQ (qC (.q 0 (.q 1 (.q 2 (.q 3 (.q 4 (.q 5 ((.l 6 [] ((.l 7 [] (.q 8 (.q 9 ((.l 10 [] (.done))))))))))))))) Kr ?_)
 refine qK rfl rfl rfl rfl (qK rfl rfl rfl rfl (qX rfl rfl rfl rfl (qL (k:=1) rfl rfl rfl rfl υ'69 rfl ζ'66 rfl ?_)))
 refine qP (j:=1) rfl rfl rfl rfl α'66 Tk Az (by rfl) ?_
 refine qK rfl rfl rfl rfl (cG rfl rfl rfl rfl (cB (us:=[_]) υ'66 ζ'50 rfl Try.zeroValue50 rfl rfl rfl) ?_)
 intro b22
 refine qV (sV (sz:=1) (enc:=encH) (xs:=B.W) rfl rfl rfl rfl rfl υ'66 τ'50 rfl rfl rfl (by decide) Tk Tk (by first | rfl | omega | (simp;done) | (simp;omega)) (ys:=[((bo,d,ys):LstA Int)]) (sW sC) (by rfl) (by first | rfl | omega) (kD) (encH_one) Om (by show _*24≤_;omega) ?_)
 intro ao23 cp23
 refine qV (qX rfl rfl rfl rfl (qL (k:=1) rfl rfl rfl rfl υ'69 rfl ζ'66 rfl ?_))
 refine kR (j:=1) rfl rfl rfl rfl ζ'66 (us:=[_]) rfl rfl rfl Tk Az (by first | decide | (simp;done) | omega) ?_
 simp only [setL,List.set]
 refine qV (qS (qW [] (e':=[]) rfl ?_))
 refine sR ?_
 refine rS (f:=owA 1 encU) (L:=B.C) (x:=(ao,c,xs)) Ts ?_
 refine rS (f:=owA 1 encU) (L:=B.W) (x:=(bo,d,ys)) Ts ?_
 refine bk_fold (b:=b) (C:=(B.C++[(ao,c,xs)])) (W:=(B.W++[(bo,d,ys)])) (F:=B.F) (G:=B.G) (ca:=ao13) (cc:=cp13) (wa:=ao23) (wc:=cp23) (fa:=fa) (fc:=fc) (ga:=ga) (gc:=gc) Ts (by first | rfl | simp) (by first | rfl | simp) (by first | rfl | simp) (by first | rfl | simp) ?_
 refine rR rfl (()) (by first | rfl | (first | rfl | (congr 1;done) | (congr 1 <;> first | rfl | omega | (simp;done) | (simp;omega)))) (by trivial) ?_
 exact Tf
theorem bflags_spec (b:Nat) (B:BK) (xs ys:List T2) (ao bo:Option Addr) (n c m d:Nat) (hn:xs.length=n) (hm:ys.length=m) (hC:B.C.length≤4000000) (hW:B.W.length≤4000000) (hF:B.F.length≤4000000) (hG:B.G.length≤4000000):Spec Try.prog 69 [.pointer (some ⟨b,0,none⟩),.slice ao n c,.slice bo m d] [bookR b B,own 2 enc2 ao c xs,own 2 enc2 bo d ys] (fun (_:Unit)=>.tuple #[]) (fun _=>True) (fun _=>[bookR b ⟨B.C,B.W,(B.F++[(ao,c,xs)]),(B.G++[(bo,d,ys)])⟩]):=by
 refine kP (n:=26) Try.func69 rfl rfl rfl ?_
 intro Γ w0
 simp only [argE,List.cons_append,List.nil_append,Nat.zero_add,Nat.reduceAdd]
 subst hn hm
 refine qG (cK (A:=bookR b B) Tk ?_)
 refine bk_open fun ca cc wa wc fa fc ga gc=>?_
 refine qC (.q 0 (.q 1 (.q 2 (.q 3 (.q 4 (.q 5 ((.l 6 [] ((.l 7 [] (.q 8 (.q 9 ((.l 10 [] (.done))))))))))))))) Kr ?_
 refine qK rfl rfl rfl rfl (qK rfl rfl rfl rfl (qX rfl rfl rfl rfl (qL (k:=3) rfl rfl rfl rfl υ'69 rfl ζ'67 rfl ?_)))
 refine qP (j:=3) rfl rfl rfl rfl α'67 Tk Az (by rfl) ?_
 refine qK rfl rfl rfl rfl (cG rfl rfl rfl rfl (cB (us:=[_]) υ'67 ζ'61 rfl Try.zeroValue61 rfl rfl rfl) ?_)
 intro b12
 refine qV (sV (sz:=1) (enc:=encH) (xs:=B.F) rfl rfl rfl rfl rfl υ'67 Try.typeInfo61 rfl rfl rfl (by decide) Tk Tk (by first | rfl | omega | (simp;done) | (simp;omega)) (ys:=[((ao,c,xs):LstA T2)]) (sW sC) (by rfl) (by first | rfl | omega) (kD) (encH_one) Om (by show _*24≤_;omega) ?_)
 intro ao13 cp13
 refine qV (qX rfl rfl rfl rfl (qL (k:=3) rfl rfl rfl rfl υ'69 rfl ζ'67 rfl ?_))
 refine kR (j:=3) rfl rfl rfl rfl ζ'67 (us:=[_]) rfl rfl rfl Tk Az (by first | decide | (simp;done) | omega) ?_
 simp only [setL,List.set]
 refine qV (qS (qW [0,2] (e':=[(0,_),(2,_)]) rfl ?_))
 refine qQ (qC (.q 0 (.q 1 (.q 2 (.q 3 (.q 4 (.q 5 ((.l 6 [] ((.l 7 [] (.q 8 (.q 9 ((.l 10 [] (.done))))))))))))))) Kr ?_)
 refine qK rfl rfl rfl rfl (qK rfl rfl rfl rfl (qX rfl rfl rfl rfl (qL (k:=4) rfl rfl rfl rfl υ'69 rfl ζ'67 rfl ?_)))
 refine qP (j:=4) rfl rfl rfl rfl α'67 Tk Az (by rfl) ?_
 refine qK rfl rfl rfl rfl (cG rfl rfl rfl rfl (cB (us:=[_]) υ'67 ζ'61 rfl Try.zeroValue61 rfl rfl rfl) ?_)
 intro b22
 refine qV (sV (sz:=1) (enc:=encH) (xs:=B.G) rfl rfl rfl rfl rfl υ'67 Try.typeInfo61 rfl rfl rfl (by decide) Tk Tk (by first | rfl | omega | (simp;done) | (simp;omega)) (ys:=[((bo,d,ys):LstA T2)]) (sW sC) (by rfl) (by first | rfl | omega) (kD) (encH_one) Om (by show _*24≤_;omega) ?_)
 intro ao23 cp23
 refine qV (qX rfl rfl rfl rfl (qL (k:=4) rfl rfl rfl rfl υ'69 rfl ζ'67 rfl ?_))
 refine kR (j:=4) rfl rfl rfl rfl ζ'67 (us:=[_]) rfl rfl rfl Tk Az (by first | decide | (simp;done) | omega) ?_
 simp only [setL,List.set]
 refine qV (qS (qW [] (e':=[]) rfl ?_))
 refine sR ?_
 refine rS (f:=owA 2 enc2) (L:=B.F) (x:=(ao,c,xs)) Ts ?_
 refine rS (f:=owA 2 enc2) (L:=B.G) (x:=(bo,d,ys)) Ts ?_
 refine bk_fold (b:=b) (C:=B.C) (W:=B.W) (F:=(B.F++[(ao,c,xs)])) (G:=(B.G++[(bo,d,ys)])) (ca:=ca) (cc:=cc) (wa:=wa) (wc:=wc) (fa:=ao13) (fc:=cp13) (ga:=ao23) (gc:=cp23) Ts (by first | rfl | simp) (by first | rfl | simp) (by first | rfl | simp) (by first | rfl | simp) ?_
 refine rR rfl (()) (by first | rfl | (first | rfl | (congr 1;done) | (congr 1 <;> first | rfl | omega | (simp;done) | (simp;omega)))) (by trivial) ?_
 exact Tf
end Go.Ab.Fr
set_option linter.unusedVariables false
set_option linter.unusedSimpArgs false
set_option maxRecDepth 100000
namespace Go.Ab.Fr
open Go Go.Proofs Go.Ab Go.Ab.Fe Go.Ab.Vc Go.Ab.Dj Go.Ab.Fa
theorem stands_spec (b:Nat) (ca wa fa ga amc amf:Option Addr) (cc wc fc gc cmc cmf:Nat) (C W:List (LstA Int)) (F G:List (LstA T2)) (M:List (PLA Int)) (MF:List (PLA T2)) (hMc:MOA wmC wvC 40 C M C.length) (hMf:MOA wmF wvF 40 F MF F.length) (hbc:∀ x∈C,x.2.2.length≤65535) (hbf:∀ x∈F,x.2.2.length≤65535) (hnc:C.length≤4000000) (hnf:F.length≤4000000):Spec Try.prog 70 [.pointer (some ⟨b,0,none⟩)] [cells b 0 [.slice ca C.length cc,.slice wa W.length wc,.slice amc (M.map (·.2)).length cmc,.slice fa F.length fc,.slice ga G.length gc,.slice amf (MF.map (·.2)).length cmf],own 1 encH ca cc C,own 1 encH amc cmc (M.map (·.2)),own 1 encH fa fc F,own 1 encH amf cmf (MF.map (·.2)),bigS (f2A 1 encU) M,bigS (f2A 2 enc2) MF] (fun (_:Unit)=>.bool true) (fun _=>True) (fun _=>[cells b 0 [.slice ca C.length cc,.slice wa W.length wc,.slice amc (M.map (·.2)).length cmc,.slice fa F.length fc,.slice ga G.length gc,.slice amf (MF.map (·.2)).length cmf]]):=by
 refine kP (n:=151) Try.func70 rfl rfl rfl ?_
 intro Γ w0
 simp only [argE,List.cons_append,List.nil_append,Nat.zero_add,Nat.reduceAdd]
 refine qG (qC (.q 0 (.done)) Kr ?_)
 refine qR rfl rfl rfl rfl (qS (qQ (qG (qG (qC (.q 0 (.done)) Kr ?_)))))
 refine qR rfl rfl rfl rfl (qS (qQ (kS ?_)))
 refine cD (α:=Nat) (fun (p:Nat)=>p≤C.length) (fun (p:Nat)=>[(3,.int .i64 ((p:Nat):Int))]) (fun (p:Nat)=>[]) (fun (p:Nat)=>C.length - p) [0] (er:=[(0,_)]) rfl (0) ?_ (by exact ⟨rfl,trivial⟩) (by (try dsimp only);(try simp only [Nat.add_zero,Nat.zero_add]);(repeat ((with_reducible apply Z2);focus (first | (with_reducible (repeat (first | exact Z0 | apply Z1));done) | (repeat (first | exact Z0 | apply Z1)))));exact Z3) ?_
 · exact Nat.zero_le _
 rintro p hle_p
 try simp only [List.cons_append,List.nil_append]
 have hml:=hMc.len
 have hmm:(M.map (·.2)).length=M.length:=List.length_map _
 refine qG (qG (qC (.q 0 (.q 1 (.q 2 (.q 3 (.q 4 (.q 5 (.q 6 (.done)))))))) Kr ?_))
 refine qK rfl rfl rfl rfl (qK rfl rfl rfl rfl (qX rfl rfl rfl rfl (qL (k:=2) rfl rfl rfl rfl υ'69 rfl ζ'66 rfl ?_)))
 refine qP (j:=2) rfl rfl rfl rfl α'66 Tk Az (by rfl) ?_
 refine cH rfl rfl rfl rfl υ'66 ?_
 refine qN rfl rfl rfl rfl rfl (sK _ _ _ _) ?_
 refine qS (qW [0,3,17] (e':=[(0,_),(3,_),(17,_)]) rfl ?_)
 refine qQ ?_
 refine qB rfl (fun hlp=>?_) (fun hlp=>?_)
 ·
  try rw [List.length_map] at hlp
  obtain ⟨x,hx⟩:=cP (l:=C) (i:=p) Om
  obtain ⟨y,hy⟩:=cP (l:=M) (i:=p) Om
  obtain ⟨a1,c1,x3⟩:=x
  obtain ⟨⟨b1,b2,b3⟩,⟨an,cn,l2⟩⟩:=y
  obtain ⟨hs1,hs2⟩:=hMc.at_ p _ _ hx hy
  simp only [Prod.mk.injEq] at hs1 hs2
  obtain ⟨rfl,rfl,rfl⟩:=hs1
  subst hs2
  have hxb:x3.length≤65535:=hbc _ (List.mem_of_getElem? hx)
  have hyM:=List.mem_of_getElem? hy
  have hyp:(M.map (·.2))[p]?=some (an,cn,(mks (wmC p) x3.length++mks (wvC p) 40)):=by rw [List.getElem?_map,hy];rfl
  have hll:(mks (wmC p) x3.length++mks (wvC p) 40).length=x3.length+40:=by rw [List.length_append,mks_len,mks_len]
  refine s_f2A (M:=M) Tk hy (mks_take _ _ _) fun hfx=>?_
  refine qF (qQ (qG (kS (qG (qC (.q 0 (.q 1 (.q 2 (.q 3 (.q 4 (.q 5 (.q 6 (.q 7 (.q 8 (.done)))))))))) Kr ?_)))))
  refine qK rfl rfl rfl rfl (qX rfl rfl rfl rfl (qL (k:=0) rfl rfl rfl rfl υ'69 rfl ζ'66 rfl ?_))
  refine qP (j:=0) rfl rfl rfl rfl α'66 Tk Az (by rfl) ?_
  refine qK rfl rfl rfl rfl (kY (sz:=0) (k:=p) (enc:=encH) (xs:=C) rfl rfl rfl rfl rfl υ'66 ζ'50 hx (by first | rfl | omega) Om Tk ?_)
  intro ib25 io25 ha25 hl25 hc25
  refine kQ (v:=(.slice b1 x3.length b2)) (j:=0) (k':=p) (enc:=encH) (off:=io25) rfl rfl rfl rfl α'50 ha25 kD hx Tk (by first | rfl | exact (Nat.add_zero _).symm | omega) (by rfl) ?_
  refine cH rfl rfl rfl rfl υ'50 ?_
  refine qR rfl rfl rfl rfl (qS (qW [0,3,4] (e':=[(0,_),(3,_),(4,_)]) rfl ?_))
  refine qQ (qG (qC (.q 0 (.done)) Kr ?_))
  refine qR rfl rfl rfl rfl (qS (qQ (kS ?_)))
  refine cD (α:=Nat) (fun (k:Nat)=>k≤x3.length+40) (fun (k:Nat)=>[(5,.int .i64 ((k:Nat):Int))]) (fun (k:Nat)=>[]) (fun (k:Nat)=>x3.length+40 - k) [0,3,4] (er:=[(0,_),(3,_),(4,_)]) rfl (0) ?_ (by exact ⟨rfl,trivial⟩) (by (try dsimp only);(try simp only [Nat.add_zero,Nat.zero_add]);(repeat ((with_reducible apply Z2);focus (first | (with_reducible (repeat (first | exact Z0 | apply Z1));done) | (repeat (first | exact Z0 | apply Z1)))));exact Z3) ?_
  · exact Nat.zero_le _
  rintro k hle_k
  try simp only [List.cons_append,List.nil_append]
  refine qG (qG (qC (.q 0 (.q 1 (.q 2 (.q 3 (.q 4 (.q 5 (.q 6 (.q 7 (.q 8 (.q 9 (.done))))))))))) Kr ?_))
  refine qK rfl rfl rfl rfl (qK rfl rfl rfl rfl (qX rfl rfl rfl rfl (qL (k:=2) rfl rfl rfl rfl υ'69 rfl ζ'66 rfl ?_)))
  refine qP (j:=2) rfl rfl rfl rfl α'66 Tk Az (by rfl) ?_
  refine qK rfl rfl rfl rfl (kY (sz:=0) (k:=p) (enc:=encH) (xs:=(M.map (·.2))) rfl rfl rfl rfl rfl υ'66 ζ'50 hyp (by first | rfl | omega) Om Tk ?_)
  intro ib34 io34 ha34 hl34 hc34
  refine kQ (v:=(.slice an ((mks (wmC p) x3.length++mks (wvC p) 40).length) cn)) (j:=0) (k':=p) (enc:=encH) (off:=io34) rfl rfl rfl rfl α'50 ha34 kD hyp Tk (by first | rfl | exact (Nat.add_zero _).symm | omega) (by rfl) ?_
  refine cH rfl rfl rfl rfl υ'50 ?_
  refine qN rfl rfl rfl rfl rfl (sK _ _ _ _) ?_
  refine qS (qW [0,3,4,5,37] (e':=[(0,_),(3,_),(4,_),(5,_),(37,_)]) rfl ?_)
  refine qQ ?_
  refine qB rfl (fun hlk=>?_) (fun hlk=>?_)
  ·
   have hlk2:k < x3.length+40:=by
     have h1:=hlk
     omega
   refine qF (qQ (qG (kS (qG (qC (.q 0 (.q 1 (.q 2 (.q 3 (.q 4 (.q 5 (.q 6 (.done)))))))) Kr ?_)))))
   refine qK rfl rfl rfl rfl (qN rfl rfl rfl rfl rfl (b_mul' _ (by exact kG Om Om)) ?_)
   refine qN rfl rfl rfl rfl rfl (cV _ (by exact kG Om Om)) ?_
   refine qK rfl rfl rfl rfl (qN rfl rfl rfl rfl rfl (cV _ (by exact kG Om Om)) ?_)
   refine q_conv' rfl rfl rfl rfl υ'48 υ'3 (by exact fits_u64 Om Om) ?_
   refine qR rfl rfl rfl rfl (qS (qW [0,3,4,5,6] (e':=[(0,_),(3,_),(4,_),(5,_),(6,_)]) rfl ?_))
   refine qQ (qG (qG (qC (.q 0 (.q 1 (.q 2 (.done)))) Kr ?_)))
   refine qK rfl rfl rfl rfl (qK rfl rfl rfl rfl (qN rfl rfl rfl rfl rfl (b_geq _ _ _ _) ?_))
   refine qS (qQ ?_)
   refine qB rfl (fun hkn=>?_) (fun hkn=>?_)
   ·
    refine qC (.q 0 (.q 1 (.q 2 (.q 3 (.done))))) Kr ?_
    refine qK rfl rfl rfl rfl (qN rfl rfl rfl rfl rfl (cV _ (by exact kG Om Om)) ?_)
    refine q_conv' rfl rfl rfl rfl υ'48 υ'3 (by exact fits_u64 Om Om) ?_
    refine qR rfl rfl rfl rfl (qS (qW [0,3,4,5,6] (e':=[(0,_),(3,_),(4,_),(5,_),(6,_)]) rfl ?_))
    refine qQ (qG (qC (.q 0 (.q 1 (.q 2 (.q 3 (.q 4 (.q 5 (.q 6 (.q 7 (.q 8 (.q 9 (.q 10 (.q 11 (.q 12 (.q 13 (.q 14 (.q 15 (.q 16 (.q 17 (.q 18 (.q 19 (.q 20 (.q 21 (.q 22 (.q 23 (.q 24 (.q 25 (.q 26 (.q 27 (.q 28 (.q 29 (.q 30 (.done)))))))))))))))))))))))))))))))) Kr ?_))
    refine qK rfl rfl rfl rfl (qX rfl rfl rfl rfl (qL (k:=2) rfl rfl rfl rfl υ'69 rfl ζ'66 rfl ?_))
    refine qP (j:=2) rfl rfl rfl rfl α'66 Tk Az (by rfl) ?_
    refine qK rfl rfl rfl rfl (kY (sz:=0) (k:=p) (enc:=encH) (xs:=(M.map (·.2))) rfl rfl rfl rfl rfl υ'66 ζ'50 hyp (by first | rfl | omega) Om Tk ?_)
    intro ib57 io57 ha57 hl57 hc57
    refine kQ (v:=(.slice an ((mks (wmC p) x3.length++mks (wvC p) 40).length) cn)) (j:=0) (k':=p) (enc:=encH) (off:=io57) rfl rfl rfl rfl α'50 ha57 kD hyp Tk (by first | rfl | exact (Nat.add_zero _).symm | omega) (by rfl) ?_
    refine qK rfl rfl rfl rfl (rC (sz:=0) (k:=k) rfl rfl rfl rfl rfl υ'50 ζ'48 (rds_big (f:=f2A 1 encU) hyM (rds_app2_l encU_len hfx.1.1 hfx.1.2)) (mk2_hi (f:=wmC p) (g:=wvC p) (n:=x3.length) (m:=40) (k:=k) Om Om) encU_len (by first | rfl | omega) Om ?_)
    intro ib60 io60 _ hd60
    refine q_load rfl rfl rfl rfl α'48 Tk (hd60 0 (.int .u64 (wvC p (k - x3.length))) rfl) ?_
    refine qK rfl rfl rfl rfl (qN rfl rfl rfl rfl rfl (b_neq _ _ _ _) ?_)
    refine kH 63 rfl (v':=.bool false) (by congr 1;rw [decide_eq_false_iff_not];simp only [ne_eq,Classical.not_not];first | rfl | (simp only [wmC,wvC];done) | (simp only [wmC,wvC];omega)) ?_
    refine qK rfl rfl rfl rfl (qK rfl rfl rfl rfl (qK rfl rfl rfl rfl (qN rfl rfl rfl rfl rfl (sK _ _ _ _) ?_)))
    refine qK rfl rfl rfl rfl ?_
    refine cL 68 rfl (fun hg=>by exfalso;omega) (fun hg=>?_)
    refine qY rfl rfl rfl rfl (qY rfl rfl rfl rfl (qY rfl rfl rfl rfl (qY rfl rfl rfl rfl (qY rfl rfl rfl rfl (qY rfl rfl rfl rfl (qY rfl rfl rfl rfl (qY rfl rfl rfl rfl (qY rfl rfl rfl rfl ?_))))))))
    refine qY rfl rfl rfl rfl (qY rfl rfl rfl rfl (qY rfl rfl rfl rfl (kC rfl rfl rfl rfl rfl (kC rfl rfl rfl rfl rfl (qS (qW [0,3,4,5,65,66,67,68,69,70,71,72,73,74,75,76,77,78,79,80,81,82] (e':=[(0,_),(3,_),(4,_),(5,_),(65,_),(66,_),(67,_),(68,_),(69,_),(70,_),(71,_),(72,_),(73,_),(74,_),(75,_),(76,_),(77,_),(78,_),(79,_),(80,_),(81,_),(82,_)]) rfl ?_))))))
    refine qQ (kB rfl ?_)
    refine qF (kK (qQ (qC (.q 0 (.q 1 (.q 2 (.done)))) Kr ?_)))
    refine qK rfl rfl rfl rfl (qN rfl rfl rfl rfl rfl (cV _ (by exact kG Om Om)) ?_)
    refine qR rfl rfl rfl rfl (qS (qQ ?_))
    refine cQ (x:=k) (k+1) ?_ ?_ ?_ ?_
    · exact by show k+1≤x3.length+40;omega
    · show x3.length+40 - (k+1) < x3.length+40 - k;omega
    · exact ⟨rfl,rfl,rfl,rfl,trivial⟩
    · (try simp only [List.cons_append,List.nil_append]);exact Tf
   refine qF (qQ (qG (qC (.q 0 (.q 1 (.q 2 (.q 3 (.q 4 (.q 5 (.q 6 (.q 7 (.q 8 (.q 9 (.q 10 (.q 11 (.q 12 (.q 13 (.q 14 (.q 15 (.q 16 (.q 17 (.q 18 (.q 19 (.q 20 (.q 21 (.q 22 (.q 23 (.q 24 (.q 25 (.q 26 (.q 27 (.q 28 (.q 29 (.q 30 (.done)))))))))))))))))))))))))))))))) Kr ?_)))
   refine qK rfl rfl rfl rfl (qX rfl rfl rfl rfl (qL (k:=2) rfl rfl rfl rfl υ'69 rfl ζ'66 rfl ?_))
   refine qP (j:=2) rfl rfl rfl rfl α'66 Tk Az (by rfl) ?_
   refine qK rfl rfl rfl rfl (kY (sz:=0) (k:=p) (enc:=encH) (xs:=(M.map (·.2))) rfl rfl rfl rfl rfl υ'66 ζ'50 hyp (by first | rfl | omega) Om Tk ?_)
   intro ib57 io57 ha57 hl57 hc57
   refine kQ (v:=(.slice an ((mks (wmC p) x3.length++mks (wvC p) 40).length) cn)) (j:=0) (k':=p) (enc:=encH) (off:=io57) rfl rfl rfl rfl α'50 ha57 kD hyp Tk (by first | rfl | exact (Nat.add_zero _).symm | omega) (by rfl) ?_
   refine qK rfl rfl rfl rfl (rC (sz:=0) (k:=k) rfl rfl rfl rfl rfl υ'50 ζ'48 (rds_big (f:=f2A 1 encU) hyM (rds_app2_l encU_len hfx.1.1 hfx.1.2)) (mk2_lo (f:=wmC p) (g:=wvC p) (n:=x3.length) (m:=40) (k:=k) Om) encU_len (by first | rfl | omega) Om ?_)
   intro ib60 io60 _ hd60
   refine q_load rfl rfl rfl rfl α'48 Tk (hd60 0 (.int .u64 (wmC p k)) rfl) ?_
   refine qK rfl rfl rfl rfl (qN rfl rfl rfl rfl rfl (b_neq _ _ _ _) ?_)
   refine kH 63 rfl (v':=.bool false) (by congr 1;rw [decide_eq_false_iff_not];simp only [ne_eq,Classical.not_not];first | rfl | (simp only [wmC,wvC];done) | (simp only [wmC,wvC];omega)) ?_
   refine qK rfl rfl rfl rfl (qK rfl rfl rfl rfl (qK rfl rfl rfl rfl (qN rfl rfl rfl rfl rfl (sK _ _ _ _) ?_)))
   refine qK rfl rfl rfl rfl ?_
   refine cL 68 rfl (fun hg=>?_) (fun hg=>by exfalso;omega)
   refine qK rfl rfl rfl rfl (qX rfl rfl rfl rfl (qL (k:=0) rfl rfl rfl rfl υ'69 rfl ζ'66 rfl ?_))
   refine qP (j:=0) rfl rfl rfl rfl α'66 Tk Az (by rfl) ?_
   refine qK rfl rfl rfl rfl (kY (sz:=0) (k:=p) (enc:=encH) (xs:=C) rfl rfl rfl rfl rfl υ'66 ζ'50 hx (by first | rfl | omega) Om Tk ?_)
   intro ib74 io74 ha74 hl74 hc74
   refine kQ (v:=(.slice b1 x3.length b2)) (j:=0) (k':=p) (enc:=encH) (off:=io74) rfl rfl rfl rfl α'50 ha74 kD hx Tk (by first | rfl | exact (Nat.add_zero _).symm | omega) (by rfl) ?_
   refine qK rfl rfl rfl rfl (rC (sz:=0) (k:=k) rfl rfl rfl rfl rfl υ'50 ζ'48 (rds_big (f:=f2A 1 encU) hyM (rds_app2_r encU_len (mks_take _ _ _) hfx.2.1 hfx.2.2)) (mks_get (wmC p) (n:=x3.length) (k:=k) Om) encU_len (by first | rfl | omega) Om ?_)
   intro ib77 io77 _ hd77
   refine q_load rfl rfl rfl rfl α'48 Tk (hd77 0 (.int .u64 (wmC p k)) rfl) ?_
   refine qK rfl rfl rfl rfl (qN rfl rfl rfl rfl rfl (b_neq _ _ _ _) ?_)
   refine kH 80 rfl (v':=.bool false) (by congr 1;rw [decide_eq_false_iff_not];simp only [ne_eq,Classical.not_not];first | rfl | (simp only [wmC,wvC];done) | (simp only [wmC,wvC];omega)) ?_
   refine kZ rfl rfl rfl rfl rfl (kC rfl rfl rfl rfl rfl (qS (qW [0,3,4,5,65,66,67,68,69,70,71,72,73,74,75,76,77,78,79,80,81,82] (e':=[(0,_),(3,_),(4,_),(5,_),(65,_),(66,_),(67,_),(68,_),(69,_),(70,_),(71,_),(72,_),(73,_),(74,_),(75,_),(76,_),(77,_),(78,_),(79,_),(80,_),(81,_),(82,_)]) rfl ?_)))
   refine qQ (kB rfl ?_)
   refine qF (kK (qQ (qC (.q 0 (.q 1 (.q 2 (.done)))) Kr ?_)))
   refine qK rfl rfl rfl rfl (qN rfl rfl rfl rfl rfl (cV _ (by exact kG Om Om)) ?_)
   refine qR rfl rfl rfl rfl (qS (qQ ?_))
   refine cQ (x:=k) (k+1) ?_ ?_ ?_ ?_
   · exact by show k+1≤x3.length+40;omega
   · show x3.length+40 - (k+1) < x3.length+40 - k;omega
   · exact ⟨rfl,rfl,rfl,rfl,trivial⟩
   · (try simp only [List.cons_append,List.nil_append]);exact Tf
  refine cM (qZ (qZ (kV (kK (qQ (qC (.q 0 (.q 1 (.q 2 (.done)))) Kr ?_))))))
  refine qK rfl rfl rfl rfl (qN rfl rfl rfl rfl rfl (cV _ (by exact kG Om Om)) ?_)
  refine qR rfl rfl rfl rfl (qS (qW [0,3] (e':=[(0,_),(3,_)]) rfl ?_))
  refine qQ ?_
  refine cQ (x:=p) (p+1) ?_ ?_ ?_ ?_
  · exact by show p+1≤C.length;omega
  · show C.length - (p+1) < C.length - p;omega
  · exact ⟨rfl,rfl,trivial⟩
  · (try simp only [List.cons_append,List.nil_append]);exact Tf
 refine cM (qZ (qZ (kV (qQ (qG (qG (qC (.q 0 (.done)) Kr ?_)))))))
 refine qR rfl rfl rfl rfl (qS (qQ (kS ?_)))
 refine cD (α:=Nat) (fun (p:Nat)=>p≤F.length) (fun (p:Nat)=>[(7,.int .i64 ((p:Nat):Int))]) (fun (p:Nat)=>[]) (fun (p:Nat)=>F.length - p) [0] (er:=[(0,_)]) rfl (0) ?_ (by exact ⟨rfl,trivial⟩) (by (try dsimp only);(try simp only [Nat.add_zero,Nat.zero_add]);(repeat ((with_reducible apply Z2);focus (first | (with_reducible (repeat (first | exact Z0 | apply Z1));done) | (repeat (first | exact Z0 | apply Z1)))));exact Z3) ?_
 · exact Nat.zero_le _
 rintro p hle_p
 try simp only [List.cons_append,List.nil_append]
 have hml:=hMf.len
 have hmm:(MF.map (·.2)).length=MF.length:=List.length_map _
 refine qG (qG (qC (.q 0 (.q 1 (.q 2 (.q 3 (.q 4 (.q 5 (.q 6 (.done)))))))) Kr ?_))
 refine qK rfl rfl rfl rfl (qK rfl rfl rfl rfl (qX rfl rfl rfl rfl (qL (k:=5) rfl rfl rfl rfl υ'69 rfl ζ'67 rfl ?_)))
 refine qP (j:=5) rfl rfl rfl rfl α'67 Tk Az (by rfl) ?_
 refine cH rfl rfl rfl rfl υ'67 ?_
 refine qN rfl rfl rfl rfl rfl (sK _ _ _ _) ?_
 refine qS (qW [0,7,89] (e':=[(0,_),(7,_),(89,_)]) rfl ?_)
 refine qQ ?_
 refine qB rfl (fun hlp=>?_) (fun hlp=>?_)
 ·
  try rw [List.length_map] at hlp
  obtain ⟨x,hx⟩:=cP (l:=F) (i:=p) Om
  obtain ⟨y,hy⟩:=cP (l:=MF) (i:=p) Om
  obtain ⟨a1,c1,x3⟩:=x
  obtain ⟨⟨b1,b2,b3⟩,⟨an,cn,l2⟩⟩:=y
  obtain ⟨hs1,hs2⟩:=hMf.at_ p _ _ hx hy
  simp only [Prod.mk.injEq] at hs1 hs2
  obtain ⟨rfl,rfl,rfl⟩:=hs1
  subst hs2
  have hxb:x3.length≤65535:=hbf _ (List.mem_of_getElem? hx)
  have hyM:=List.mem_of_getElem? hy
  have hyp:(MF.map (·.2))[p]?=some (an,cn,(mks (wmF p) x3.length++mks (wvF p) 40)):=by rw [List.getElem?_map,hy];rfl
  have hll:(mks (wmF p) x3.length++mks (wvF p) 40).length=x3.length+40:=by rw [List.length_append,mks_len,mks_len]
  refine s_f2A (M:=MF) Tk hy (mks_take _ _ _) fun hfx=>?_
  refine qF (qQ (qG (kS (qG (qC (.q 0 (.q 1 (.q 2 (.q 3 (.q 4 (.q 5 (.q 6 (.q 7 (.q 8 (.done)))))))))) Kr ?_)))))
  refine qK rfl rfl rfl rfl (qX rfl rfl rfl rfl (qL (k:=3) rfl rfl rfl rfl υ'69 rfl ζ'67 rfl ?_))
  refine qP (j:=3) rfl rfl rfl rfl α'67 Tk Az (by rfl) ?_
  refine qK rfl rfl rfl rfl (kY (sz:=0) (k:=p) (enc:=encH) (xs:=F) rfl rfl rfl rfl rfl υ'67 ζ'61 hx (by first | rfl | omega) Om Tk ?_)
  intro ib97 io97 ha97 hl97 hc97
  refine kQ (v:=(.slice b1 x3.length b2)) (j:=0) (k':=p) (enc:=encH) (off:=io97) rfl rfl rfl rfl α'61 ha97 kD hx Tk (by first | rfl | exact (Nat.add_zero _).symm | omega) (by rfl) ?_
  refine cH rfl rfl rfl rfl υ'61 ?_
  refine qR rfl rfl rfl rfl (qS (qW [0,7,8] (e':=[(0,_),(7,_),(8,_)]) rfl ?_))
  refine qQ (qG (qC (.q 0 (.done)) Kr ?_))
  refine qR rfl rfl rfl rfl (qS (qQ (kS ?_)))
  refine cD (α:=Nat) (fun (k:Nat)=>k≤x3.length+40) (fun (k:Nat)=>[(9,.int .i64 ((k:Nat):Int))]) (fun (k:Nat)=>[]) (fun (k:Nat)=>x3.length+40 - k) [0,7,8] (er:=[(0,_),(7,_),(8,_)]) rfl (0) ?_ (by exact ⟨rfl,trivial⟩) (by (try dsimp only);(try simp only [Nat.add_zero,Nat.zero_add]);(repeat ((with_reducible apply Z2);focus (first | (with_reducible (repeat (first | exact Z0 | apply Z1));done) | (repeat (first | exact Z0 | apply Z1)))));exact Z3) ?_
  · exact Nat.zero_le _
  rintro k hle_k
  try simp only [List.cons_append,List.nil_append]
  refine qG (qG (qC (.q 0 (.q 1 (.q 2 (.q 3 (.q 4 (.q 5 (.q 6 (.q 7 (.q 8 (.q 9 (.done))))))))))) Kr ?_))
  refine qK rfl rfl rfl rfl (qK rfl rfl rfl rfl (qX rfl rfl rfl rfl (qL (k:=5) rfl rfl rfl rfl υ'69 rfl ζ'67 rfl ?_)))
  refine qP (j:=5) rfl rfl rfl rfl α'67 Tk Az (by rfl) ?_
  refine qK rfl rfl rfl rfl (kY (sz:=0) (k:=p) (enc:=encH) (xs:=(MF.map (·.2))) rfl rfl rfl rfl rfl υ'67 ζ'61 hyp (by first | rfl | omega) Om Tk ?_)
  intro ib106 io106 ha106 hl106 hc106
  refine kQ (v:=(.slice an ((mks (wmF p) x3.length++mks (wvF p) 40).length) cn)) (j:=0) (k':=p) (enc:=encH) (off:=io106) rfl rfl rfl rfl α'61 ha106 kD hyp Tk (by first | rfl | exact (Nat.add_zero _).symm | omega) (by rfl) ?_
  refine cH rfl rfl rfl rfl υ'61 ?_
  refine qN rfl rfl rfl rfl rfl (sK _ _ _ _) ?_
  refine qS (qW [0,7,8,9,109] (e':=[(0,_),(7,_),(8,_),(9,_),(109,_)]) rfl ?_)
  refine qQ ?_
  refine qB rfl (fun hlk=>?_) (fun hlk=>?_)
  ·
   have hlk2:k < x3.length+40:=by
     have h1:=hlk
     omega
   refine qF (qQ (qG (kS (qG (qC (.q 0 (.q 1 (.q 2 (.q 3 ((.l 4 [] ((.l 5 [] (.done))))))))) Kr ?_)))))
   refine qK rfl rfl rfl rfl (qN rfl rfl rfl rfl rfl (b_sub' _ (by exact kG Om Om)) ?_)
   refine qK rfl rfl rfl rfl (cX rfl rfl rfl rfl (vs:=[_,_]) (kM υ'101 ω'101 (ps:=[(0,1),(1,1)]) ⟨rfl,ζ'3,rfl,ζ'3,trivial⟩ rfl) ?_)
   refine cF rfl rfl rfl ω'101 (zs:=[.int .i64 0,.int .i64 0]) rfl ?_
   intro b10
   refine qV (kR (j:=0) rfl rfl rfl rfl ζ'101 (us:=[_,_]) rfl rfl rfl Tk Az (by first | decide | (simp;done) | omega) ?_)
   simp only [setL,List.set]
   refine qV (qS (qW [0,7,8,9,10] (e':=[(0,_),(7,_),(8,_),(9,_),(10,_)]) rfl ?_))
   refine qQ (qG (qG (qC (.q 0 (.q 1 (.q 2 (.done)))) Kr ?_)))
   refine qK rfl rfl rfl rfl (qK rfl rfl rfl rfl (qN rfl rfl rfl rfl rfl (b_geq _ _ _ _) ?_))
   refine qS (qQ ?_)
   refine qB rfl (fun hkn=>?_) (fun hkn=>?_)
   ·
    refine qC (.q 0 ((.l 1 [] (.done)))) Kr ?_
    refine qL (k:=1) rfl rfl rfl rfl υ'101 rfl ζ'3 rfl ?_
    refine kR (j:=1) rfl rfl rfl rfl ζ'3 (us:=[_]) rfl rfl rfl Tk Az (by first | decide | (simp;done) | omega) ?_
    simp only [setL,List.set]
    refine qV (qS (qW [0,7,8,9,10] (e':=[(0,_),(7,_),(8,_),(9,_),(10,_)]) rfl ?_))
    refine qQ (qG (kX rfl (.q 0 (.q 1 (.q 2 (.q 3 (.q 4 (.q 5 (.q 6 (.q 7 (.q 8 (.q 9 (.q 10 (.q 11 (.q 12 (.q 13 (.q 14 (.q 15 (.q 16 (.q 17 (.q 18 (.q 19 (.q 20 (.q 21 (.q 22 (.q 23 (.q 24 (.q 25 (.q 26 (.q 27 (.q 28 (.q 29 (.q 30 (.done)))))))))))))))))))))))))))))))) Kr ?_))
    refine qK rfl rfl rfl rfl (qX rfl rfl rfl rfl (qL (k:=5) rfl rfl rfl rfl υ'69 rfl ζ'67 rfl ?_))
    refine qP (j:=5) rfl rfl rfl rfl α'67 Tk Az (by rfl) ?_
    refine qK rfl rfl rfl rfl (kY (sz:=0) (k:=p) (enc:=encH) (xs:=(MF.map (·.2))) rfl rfl rfl rfl rfl υ'67 ζ'61 hyp (by first | rfl | omega) Om Tk ?_)
    intro ib125 io125 ha125 hl125 hc125
    refine kQ (v:=(.slice an ((mks (wmF p) x3.length++mks (wvF p) 40).length) cn)) (j:=0) (k':=p) (enc:=encH) (off:=io125) rfl rfl rfl rfl α'61 ha125 kD hyp Tk (by first | rfl | exact (Nat.add_zero _).symm | omega) (by rfl) ?_
    refine qK rfl rfl rfl rfl (rC (sz:=1) (k:=k) rfl rfl rfl rfl rfl υ'61 ζ'101 (rds_big (f:=f2A 2 enc2) hyM (rds_app2_l enc2_len hfx.1.1 hfx.1.2)) (mk2_hi (f:=wmF p) (g:=wvF p) (n:=x3.length) (m:=40) (k:=k) Om Om) enc2_len (by first | rfl | omega) Om ?_)
    intro ib128 io128 _ hd128
    refine q_loadN (vs:=[_,_]) rfl rfl rfl rfl α'101 ζ'101 Tk (hd128) rfl ?_
    refine kN rfl rfl rfl rfl α'101 ζ'101 Tk 0 (us:=[_,_]) Az rfl rfl ?_
    refine q_neS rfl rfl rfl rfl rfl Kr (eqc_struct υ'101 Kr (eqf_cons rfl α'3 rfl rfl (eqc_int υ'3) (eqf_last rfl α'3 rfl rfl (eqc_int υ'3)))) ?_
    refine kH 131 rfl (v':=.bool (decide ((wvF p (k - x3.length))≠((-1) - ((p:Nat):Int),(-1))))) (by first | (congr 1;done) | (congr 1;rw [Bool.eq_iff_iff];simp [Prod.ext_iff,and_assoc])) ?_
    refine kH 131 rfl (v':=.bool false) (by first | rfl | (congr 1;rw [decide_eq_false_iff_not];simp only [ne_eq,Classical.not_not];rfl) | simp [wmF,wvF]) ?_
    refine qK rfl rfl rfl rfl (qK rfl rfl rfl rfl (qK rfl rfl rfl rfl (qN rfl rfl rfl rfl rfl (sK _ _ _ _) ?_)))
    refine qK rfl rfl rfl rfl ?_
    refine cL 136 rfl (fun hg=>by exfalso;omega) (fun hg=>?_)
    refine qY rfl rfl rfl rfl (qY rfl rfl rfl rfl (qY rfl rfl rfl rfl (qY rfl rfl rfl rfl (qY rfl rfl rfl rfl (qY rfl rfl rfl rfl (qY rfl rfl rfl rfl (qY rfl rfl rfl rfl (qY rfl rfl rfl rfl ?_))))))))
    refine qY rfl rfl rfl rfl (qY rfl rfl rfl rfl (qY rfl rfl rfl rfl (kC rfl rfl rfl rfl rfl (kC rfl rfl rfl rfl rfl (qS (qW [0,7,8,9,133,134,135,136,137,138,139,140,141,142,143,144,145,146,147,148,149,150] (e':=[(0,_),(7,_),(8,_),(9,_),(133,_),(134,_),(135,_),(136,_),(137,_),(138,_),(139,_),(140,_),(141,_),(142,_),(143,_),(144,_),(145,_),(146,_),(147,_),(148,_),(149,_),(150,_)]) rfl ?_))))))
    refine qQ (kB rfl ?_)
    refine qF (kK (qQ (qC (.q 0 (.q 1 (.q 2 (.done)))) Kr ?_)))
    refine qK rfl rfl rfl rfl (qN rfl rfl rfl rfl rfl (cV _ (by exact kG Om Om)) ?_)
    refine qR rfl rfl rfl rfl (qS (qQ ?_))
    refine cQ (x:=k) (k+1) ?_ ?_ ?_ ?_
    · exact by show k+1≤x3.length+40;omega
    · show x3.length+40 - (k+1) < x3.length+40 - k;omega
    · exact ⟨rfl,rfl,rfl,rfl,trivial⟩
    · (try simp only [List.cons_append,List.nil_append]);exact Tf
   refine qF (qQ (qG (kX rfl (.q 0 (.q 1 (.q 2 (.q 3 (.q 4 (.q 5 (.q 6 (.q 7 (.q 8 (.q 9 (.q 10 (.q 11 (.q 12 (.q 13 (.q 14 (.q 15 (.q 16 (.q 17 (.q 18 (.q 19 (.q 20 (.q 21 (.q 22 (.q 23 (.q 24 (.q 25 (.q 26 (.q 27 (.q 28 (.q 29 (.q 30 (.done)))))))))))))))))))))))))))))))) Kr ?_)))
   refine qK rfl rfl rfl rfl (qX rfl rfl rfl rfl (qL (k:=5) rfl rfl rfl rfl υ'69 rfl ζ'67 rfl ?_))
   refine qP (j:=5) rfl rfl rfl rfl α'67 Tk Az (by rfl) ?_
   refine qK rfl rfl rfl rfl (kY (sz:=0) (k:=p) (enc:=encH) (xs:=(MF.map (·.2))) rfl rfl rfl rfl rfl υ'67 ζ'61 hyp (by first | rfl | omega) Om Tk ?_)
   intro ib125 io125 ha125 hl125 hc125
   refine kQ (v:=(.slice an ((mks (wmF p) x3.length++mks (wvF p) 40).length) cn)) (j:=0) (k':=p) (enc:=encH) (off:=io125) rfl rfl rfl rfl α'61 ha125 kD hyp Tk (by first | rfl | exact (Nat.add_zero _).symm | omega) (by rfl) ?_
   refine qK rfl rfl rfl rfl (rC (sz:=1) (k:=k) rfl rfl rfl rfl rfl υ'61 ζ'101 (rds_big (f:=f2A 2 enc2) hyM (rds_app2_l enc2_len hfx.1.1 hfx.1.2)) (mk2_lo (f:=wmF p) (g:=wvF p) (n:=x3.length) (m:=40) (k:=k) Om) enc2_len (by first | rfl | omega) Om ?_)
   intro ib128 io128 _ hd128
   refine q_loadN (vs:=[_,_]) rfl rfl rfl rfl α'101 ζ'101 Tk (hd128) rfl ?_
   refine kN rfl rfl rfl rfl α'101 ζ'101 Tk 0 (us:=[_,_]) Az rfl rfl ?_
   refine q_neS rfl rfl rfl rfl rfl Kr (eqc_struct υ'101 Kr (eqf_cons rfl α'3 rfl rfl (eqc_int υ'3) (eqf_last rfl α'3 rfl rfl (eqc_int υ'3)))) ?_
   refine kH 131 rfl (v':=.bool (decide ((wmF p k)≠((-1) - ((p:Nat):Int),((k:Nat):Int))))) (by first | (congr 1;done) | (congr 1;rw [Bool.eq_iff_iff];simp [Prod.ext_iff,and_assoc])) ?_
   refine kH 131 rfl (v':=.bool false) (by first | rfl | (congr 1;rw [decide_eq_false_iff_not];simp only [ne_eq,Classical.not_not];rfl) | simp [wmF,wvF]) ?_
   refine qK rfl rfl rfl rfl (qK rfl rfl rfl rfl (qK rfl rfl rfl rfl (qN rfl rfl rfl rfl rfl (sK _ _ _ _) ?_)))
   refine qK rfl rfl rfl rfl ?_
   refine cL 136 rfl (fun hg=>?_) (fun hg=>by exfalso;omega)
   refine qK rfl rfl rfl rfl (qX rfl rfl rfl rfl (qL (k:=3) rfl rfl rfl rfl υ'69 rfl ζ'67 rfl ?_))
   refine qP (j:=3) rfl rfl rfl rfl α'67 Tk Az (by rfl) ?_
   refine qK rfl rfl rfl rfl (kY (sz:=0) (k:=p) (enc:=encH) (xs:=F) rfl rfl rfl rfl rfl υ'67 ζ'61 hx (by first | rfl | omega) Om Tk ?_)
   intro ib142 io142 ha142 hl142 hc142
   refine kQ (v:=(.slice b1 x3.length b2)) (j:=0) (k':=p) (enc:=encH) (off:=io142) rfl rfl rfl rfl α'61 ha142 kD hx Tk (by first | rfl | exact (Nat.add_zero _).symm | omega) (by rfl) ?_
   refine qK rfl rfl rfl rfl (rC (sz:=1) (k:=k) rfl rfl rfl rfl rfl υ'61 ζ'101 (rds_big (f:=f2A 2 enc2) hyM (rds_app2_r enc2_len (mks_take _ _ _) hfx.2.1 hfx.2.2)) (mks_get (wmF p) (n:=x3.length) (k:=k) Om) enc2_len (by first | rfl | omega) Om ?_)
   intro ib145 io145 _ hd145
   refine q_loadN (vs:=[_,_]) rfl rfl rfl rfl α'101 ζ'101 Tk (hd145) rfl ?_
   refine kN rfl rfl rfl rfl α'101 ζ'101 Tk 0 (us:=[_,_]) Az rfl rfl ?_
   refine q_neS rfl rfl rfl rfl rfl Kr (eqc_struct υ'101 Kr (eqf_cons rfl α'3 rfl rfl (eqc_int υ'3) (eqf_last rfl α'3 rfl rfl (eqc_int υ'3)))) ?_
   refine kH 148 rfl (v':=.bool (decide ((wmF p k)≠((-1) - ((p:Nat):Int),((k:Nat):Int))))) (by first | (congr 1;done) | (congr 1;rw [Bool.eq_iff_iff];simp [Prod.ext_iff,and_assoc])) ?_
   refine kH 148 rfl (v':=.bool false) (by first | rfl | (congr 1;rw [decide_eq_false_iff_not];simp only [ne_eq,Classical.not_not];rfl) | simp [wmF,wvF]) ?_
   refine kZ rfl rfl rfl rfl rfl (kC rfl rfl rfl rfl rfl (qS (qW [0,7,8,9,133,134,135,136,137,138,139,140,141,142,143,144,145,146,147,148,149,150] (e':=[(0,_),(7,_),(8,_),(9,_),(133,_),(134,_),(135,_),(136,_),(137,_),(138,_),(139,_),(140,_),(141,_),(142,_),(143,_),(144,_),(145,_),(146,_),(147,_),(148,_),(149,_),(150,_)]) rfl ?_)))
   refine qQ (kB rfl ?_)
   refine qF (kK (qQ (qC (.q 0 (.q 1 (.q 2 (.done)))) Kr ?_)))
   refine qK rfl rfl rfl rfl (qN rfl rfl rfl rfl rfl (cV _ (by exact kG Om Om)) ?_)
   refine qR rfl rfl rfl rfl (qS (qQ ?_))
   refine cQ (x:=k) (k+1) ?_ ?_ ?_ ?_
   · exact by show k+1≤x3.length+40;omega
   · show x3.length+40 - (k+1) < x3.length+40 - k;omega
   · exact ⟨rfl,rfl,rfl,rfl,trivial⟩
   · (try simp only [List.cons_append,List.nil_append]);exact Tf
  refine cM (qZ (qZ (kV (kK (qQ (qC (.q 0 (.q 1 (.q 2 (.done)))) Kr ?_))))))
  refine qK rfl rfl rfl rfl (qN rfl rfl rfl rfl rfl (cV _ (by exact kG Om Om)) ?_)
  refine qR rfl rfl rfl rfl (qS (qW [0,7] (e':=[(0,_),(7,_)]) rfl ?_))
  refine qQ ?_
  refine cQ (x:=p) (p+1) ?_ ?_ ?_ ?_
  · exact by show p+1≤F.length;omega
  · show F.length - (p+1) < F.length - p;omega
  · exact ⟨rfl,rfl,trivial⟩
  · (try simp only [List.cons_append,List.nil_append]);exact Tf
 refine cM (qZ (qZ (kV (qQ (qG (qC (.q 0 (.done)) Kr ?_))))))
 refine qR rfl rfl rfl rfl (qS (qQ (qJ (cR rfl rfl (()) (by first | rfl | (first | rfl | (congr 1;done) | (congr 1 <;> first | rfl | omega | (simp;done) | (simp;omega)))) (by trivial) ?_))))
 exact Tf
theorem apart_spec (b n:Nat) (B:BK) (hB:BOk n B) (hn:n≤4000000):Spec Try.prog 25 [.pointer (some ⟨b,0,none⟩)] [bookR b B] (fun (_:Unit)=>.bool true) (fun _=>True) (fun _=>[]):=by
 refine kP (n:=209) Try.func25 rfl rfl rfl ?_
 intro Γ w0
 simp only [argE,List.cons_append,List.nil_append,Nat.zero_add,Nat.reduceAdd]
 obtain ⟨C,W,F,G⟩:=B
 obtain ⟨hmc,hmf,hbc,hbf,hnc0,hnf0⟩:=hB
 simp only at hmc hmf hbc hbf hnc0 hnf0
 have hwl:C.length=W.length:=by simpa using congrArg List.length hmc
 have hgl:F.length=G.length:=by simpa using congrArg List.length hmf
 refine qG (qC (.q 0 (.done)) Kr ?_)
 refine qR rfl rfl rfl rfl (qS (qQ (qG (qG (cK (A:=bookR b ⟨C,W,F,G⟩) Tk ?_)))))
 refine bk_open fun ca cc wa wc fa fc ga gc=>?_
 dsimp only
 refine qC (.q 0 (.done)) Kr ?_
 refine qR rfl rfl rfl rfl (qS (qQ (kS ?_)))
 refine cD (α:=Nat) (fun (i:Nat)=>i≤C.length) (fun (i:Nat)=>[(3,.int .i64 ((i:Nat):Int))]) (fun (i:Nat)=>[]) (fun (i:Nat)=>C.length - i) [0] (er:=[(0,_)]) rfl (0) ?_ (by exact ⟨rfl,trivial⟩) (by (try dsimp only);(try simp only [Nat.add_zero,Nat.zero_add]);(repeat ((with_reducible apply Z2);focus (first | (with_reducible (repeat (first | exact Z0 | apply Z1));done) | (repeat (first | exact Z0 | apply Z1)))));exact Z3) ?_
 · exact Nat.zero_le _
 rintro i hle_i
 try simp only [List.cons_append,List.nil_append]
 refine qG (qG (qC (.q 0 (.q 1 (.q 2 (.q 3 (.q 4 (.q 5 (.q 6 (.done)))))))) Kr ?_))
 refine qK rfl rfl rfl rfl (qK rfl rfl rfl rfl (qX rfl rfl rfl rfl (qL (k:=0) rfl rfl rfl rfl υ'69 rfl ζ'66 rfl ?_)))
 refine qP (j:=0) rfl rfl rfl rfl α'66 Tk Az (by rfl) ?_
 refine cH rfl rfl rfl rfl υ'66 ?_
 refine qN rfl rfl rfl rfl rfl (sK _ _ _ _) ?_
 refine qS (qW [0,3,21] (e':=[(0,_),(3,_),(21,_)]) rfl ?_)
 refine qQ ?_
 refine qB rfl (fun hlt=>?_) (fun hlt=>?_)
 ·
  obtain ⟨⟨a1,c1,x3⟩,hx⟩:=cP (l:=C) (i:=i) Om
  obtain ⟨⟨a2,c2,y3⟩,hy⟩:=cP (l:=W) (i:=i) Om
  have hxb:x3.length≤65535:=hbc _ (List.mem_of_getElem? hx)
  obtain rfl:x3=y3:=same_at hmc hx hy
  refine s_owA (T:=C) Tk hx fun hp1 hp2=>?_
  refine s_owA (T:=W) Tk hy fun hq1 hq2=>?_
  refine qF (qQ (qG (kS (qG (kX rfl (.q 0 (.q 1 (.q 2 (.q 3 (.q 4 (.q 5 (.q 6 (.q 7 (.q 8 (.q 9 (.q 10 (.q 11 (.q 12 (.q 13 ((.l 14 [] (.q 15 (.done)))))))))))))))))) Kr ?_)))))
  refine qK rfl rfl rfl rfl (qX rfl rfl rfl rfl (qL (k:=0) rfl rfl rfl rfl υ'69 rfl ζ'66 rfl ?_))
  refine qP (j:=0) rfl rfl rfl rfl α'66 Tk Az (by rfl) ?_
  refine qK rfl rfl rfl rfl (kY (sz:=0) (k:=i) (enc:=encH) (xs:=C) rfl rfl rfl rfl rfl υ'66 ζ'50 hx (by first | rfl | omega) Om Tk ?_)
  intro ib29 io29 ha29 hl29 hc29
  refine kQ (v:=(.slice a1 x3.length c1)) (j:=0) (k':=i) (enc:=encH) (off:=io29) rfl rfl rfl rfl α'50 ha29 kD hx Tk (by first | rfl | exact (Nat.add_zero _).symm | omega) (by rfl) ?_
  refine qK rfl rfl rfl rfl (qX rfl rfl rfl rfl (qL (k:=1) rfl rfl rfl rfl υ'69 rfl ζ'66 rfl ?_))
  refine qP (j:=1) rfl rfl rfl rfl α'66 Tk Az (by rfl) ?_
  refine qK rfl rfl rfl rfl (kY (sz:=0) (k:=i) (enc:=encH) (xs:=W) rfl rfl rfl rfl rfl υ'66 ζ'50 hy (by first | rfl | omega) Om Tk ?_)
  intro ib36 io36 ha36 hl36 hc36
  refine kQ (v:=(.slice a2 x3.length c2)) (j:=0) (k':=i) (enc:=encH) (off:=io36) rfl rfl rfl rfl α'50 ha36 kD hy Tk (by first | rfl | exact (Nat.add_zero _).symm | omega) (by rfl) ?_
  refine kF (fun _ h=>Bun.fold ((by (repeat ((with_reducible apply Z2);focus (first | (with_reducible (repeat (first | exact Z0 | apply Z1));done) | (repeat (first | exact Z0 | apply Z1)))));exact Z3:Takes _ [bigS (owA 1 encU) C,bigS (owA 1 encU) W] _) _ h)) ?_
  have sp_1:=clocks_same x3 x3 a1 a2 x3.length x3.length c1 c2 (Bun [bigS (owA 1 encU) C,bigS (owA 1 encU) W]) Ln (rds_bun (List.mem_cons_self) (rds_big (f:=owA 1 encU) (List.mem_of_getElem? hx) (sD encU_len hp1 hp2))) Ln (rds_bun (List.mem_cons_of_mem _ (List.mem_cons_self)) (rds_big (f:=owA 1 encU) (List.mem_of_getElem? hy) (sD encU_len hq1 hq2))) Om
  refine qM rfl rfl rfl rfl rfl rfl Try.call60 (sp_1) Ts ?_
  rintro ⟨⟩ -
  try simp only [List.cons_append,List.nil_append]
  refine cK (A:=Bun [bigS (owA 1 encU) C,bigS (owA 1 encU) W]) Tk ?_
  refine s_bun ?_
  try simp only [List.cons_append,List.nil_append]
  try simp only [List.cons_append,List.nil_append]
  refine qV (kH 38 rfl (v':=.bool true) (by first | rfl | simp) ?_)
  refine rL rfl rfl rfl rfl ?_
  refine kH 39 rfl (v':=.bool false) rfl ?_
  refine qS (qW [0,3,39] (e':=[(0,_),(3,_),(39,_)]) rfl ?_)
  refine qQ (kB rfl ?_)
  refine qF (kK (qQ (qC (.q 0 (.q 1 (.q 2 (.done)))) Kr ?_)))
  refine qK rfl rfl rfl rfl (qN rfl rfl rfl rfl rfl (cV _ (by exact kG Om Om)) ?_)
  refine qR rfl rfl rfl rfl (qS (qQ ?_))
  refine cQ (x:=i) (i+1) ?_ ?_ ?_ ?_
  · exact by show i+1≤C.length;omega
  · show C.length - (i+1) < C.length - i;omega
  · exact ⟨rfl,rfl,trivial⟩
  · (try simp only [List.cons_append,List.nil_append]);exact Tf
 refine cM (qZ (qZ (kV (qQ (qG (qG (qC (.q 0 (.done)) Kr ?_)))))))
 refine qR rfl rfl rfl rfl (qS (qQ (kS ?_)))
 refine cD (α:=Nat) (fun (i:Nat)=>i≤F.length) (fun (i:Nat)=>[(4,.int .i64 ((i:Nat):Int))]) (fun (i:Nat)=>[]) (fun (i:Nat)=>F.length - i) [0] (er:=[(0,_)]) rfl (0) ?_ (by exact ⟨rfl,trivial⟩) (by (try dsimp only);(try simp only [Nat.add_zero,Nat.zero_add]);(repeat ((with_reducible apply Z2);focus (first | (with_reducible (repeat (first | exact Z0 | apply Z1));done) | (repeat (first | exact Z0 | apply Z1)))));exact Z3) ?_
 · exact Nat.zero_le _
 rintro i hle_i
 try simp only [List.cons_append,List.nil_append]
 refine qG (qG (qC (.q 0 (.q 1 (.q 2 (.q 3 (.q 4 (.q 5 (.q 6 (.done)))))))) Kr ?_))
 refine qK rfl rfl rfl rfl (qK rfl rfl rfl rfl (qX rfl rfl rfl rfl (qL (k:=3) rfl rfl rfl rfl υ'69 rfl ζ'67 rfl ?_)))
 refine qP (j:=3) rfl rfl rfl rfl α'67 Tk Az (by rfl) ?_
 refine cH rfl rfl rfl rfl υ'67 ?_
 refine qN rfl rfl rfl rfl rfl (sK _ _ _ _) ?_
 refine qS (qW [0,4,46] (e':=[(0,_),(4,_),(46,_)]) rfl ?_)
 refine qQ ?_
 refine qB rfl (fun hlt=>?_) (fun hlt=>?_)
 ·
  obtain ⟨⟨a1,c1,x3⟩,hx⟩:=cP (l:=F) (i:=i) Om
  obtain ⟨⟨a2,c2,y3⟩,hy⟩:=cP (l:=G) (i:=i) Om
  have hxb:x3.length≤65535:=hbf _ (List.mem_of_getElem? hx)
  obtain rfl:x3=y3:=same_at hmf hx hy
  refine s_owA (T:=F) Tk hx fun hp1 hp2=>?_
  refine s_owA (T:=G) Tk hy fun hq1 hq2=>?_
  refine qF (qQ (qG (kS (qG (kX rfl (.q 0 (.q 1 (.q 2 (.q 3 (.q 4 (.q 5 (.q 6 (.q 7 (.q 8 (.q 9 (.q 10 (.q 11 (.q 12 (.q 13 ((.l 14 [] (.q 15 (.done)))))))))))))))))) Kr ?_)))))
  refine qK rfl rfl rfl rfl (qX rfl rfl rfl rfl (qL (k:=3) rfl rfl rfl rfl υ'69 rfl ζ'67 rfl ?_))
  refine qP (j:=3) rfl rfl rfl rfl α'67 Tk Az (by rfl) ?_
  refine qK rfl rfl rfl rfl (kY (sz:=0) (k:=i) (enc:=encH) (xs:=F) rfl rfl rfl rfl rfl υ'67 ζ'61 hx (by first | rfl | omega) Om Tk ?_)
  intro ib54 io54 ha54 hl54 hc54
  refine kQ (v:=(.slice a1 x3.length c1)) (j:=0) (k':=i) (enc:=encH) (off:=io54) rfl rfl rfl rfl α'61 ha54 kD hx Tk (by first | rfl | exact (Nat.add_zero _).symm | omega) (by rfl) ?_
  refine qK rfl rfl rfl rfl (qX rfl rfl rfl rfl (qL (k:=4) rfl rfl rfl rfl υ'69 rfl ζ'67 rfl ?_))
  refine qP (j:=4) rfl rfl rfl rfl α'67 Tk Az (by rfl) ?_
  refine qK rfl rfl rfl rfl (kY (sz:=0) (k:=i) (enc:=encH) (xs:=G) rfl rfl rfl rfl rfl υ'67 ζ'61 hy (by first | rfl | omega) Om Tk ?_)
  intro ib61 io61 ha61 hl61 hc61
  refine kQ (v:=(.slice a2 x3.length c2)) (j:=0) (k':=i) (enc:=encH) (off:=io61) rfl rfl rfl rfl α'61 ha61 kD hy Tk (by first | rfl | exact (Nat.add_zero _).symm | omega) (by rfl) ?_
  refine kF (fun _ h=>Bun.fold ((by (repeat ((with_reducible apply Z2);focus (first | (with_reducible (repeat (first | exact Z0 | apply Z1));done) | (repeat (first | exact Z0 | apply Z1)))));exact Z3:Takes _ [bigS (owA 2 enc2) F,bigS (owA 2 enc2) G] _) _ h)) ?_
  have sp_2:=fflags_same x3 x3 a1 a2 x3.length x3.length c1 c2 (Bun [bigS (owA 2 enc2) F,bigS (owA 2 enc2) G]) Ln (rds_bun (List.mem_cons_self) (rds_big (f:=owA 2 enc2) (List.mem_of_getElem? hx) (sD enc2_len hp1 hp2))) Ln (rds_bun (List.mem_cons_of_mem _ (List.mem_cons_self)) (rds_big (f:=owA 2 enc2) (List.mem_of_getElem? hy) (sD enc2_len hq1 hq2))) Om
  refine qM rfl rfl rfl rfl rfl rfl Try.call21 (sp_2) Ts ?_
  rintro ⟨⟩ -
  try simp only [List.cons_append,List.nil_append]
  refine cK (A:=Bun [bigS (owA 2 enc2) F,bigS (owA 2 enc2) G]) Tk ?_
  refine s_bun ?_
  try simp only [List.cons_append,List.nil_append]
  try simp only [List.cons_append,List.nil_append]
  refine qV (kH 63 rfl (v':=.bool true) (by first | rfl | simp) ?_)
  refine rL rfl rfl rfl rfl ?_
  refine kH 64 rfl (v':=.bool false) rfl ?_
  refine qS (qW [0,4,64] (e':=[(0,_),(4,_),(64,_)]) rfl ?_)
  refine qQ (kB rfl ?_)
  refine qF (kK (qQ (qC (.q 0 (.q 1 (.q 2 (.done)))) Kr ?_)))
  refine qK rfl rfl rfl rfl (qN rfl rfl rfl rfl rfl (cV _ (by exact kG Om Om)) ?_)
  refine qR rfl rfl rfl rfl (qS (qQ ?_))
  refine cQ (x:=i) (i+1) ?_ ?_ ?_ ?_
  · exact by show i+1≤F.length;omega
  · show F.length - (i+1) < F.length - i;omega
  · exact ⟨rfl,rfl,trivial⟩
  · (try simp only [List.cons_append,List.nil_append]);exact Tf
 refine cM (qZ (qZ (kV (qQ (qG (qG (qC (.q 0 (.done)) Kr ?_)))))))
 refine qR rfl rfl rfl rfl (qS (qQ (kS ?_)))
 refine cD (α:=Nat × List (LstA Int)) (fun (x_:Nat × List (LstA Int))=>match x_ with | (i,U)=>i≤C.length∧(WIA wmC C U i)) (fun (x_:Nat × List (LstA Int))=>match x_ with | (i,U)=>[(5,.int .i64 ((i:Nat):Int))]) (fun (x_:Nat × List (LstA Int))=>match x_ with | (i,U)=>[bigS (owA 1 encU) U]) (fun (x_:Nat × List (LstA Int))=>match x_ with | (i,U)=>C.length - i) [0] (er:=[(0,_)]) rfl (0,C) ?_ (by exact ⟨rfl,trivial⟩) (by (try dsimp only);(try simp only [Nat.add_zero,Nat.zero_add]);(repeat ((with_reducible apply Z2);focus (first | (with_reducible (repeat (first | exact Z0 | apply Z1));done) | (repeat (first | exact Z0 | apply Z1)))));exact Z3) ?_
 · exact ⟨Nat.zero_le _,wia_start _ C⟩
 rintro ⟨i,U⟩ ⟨hle_i,hWc⟩
 try simp only [List.cons_append,List.nil_append]
 refine qG (qG (qC (.q 0 (.q 1 (.q 2 (.q 3 (.q 4 (.q 5 (.q 6 (.done)))))))) Kr ?_))
 refine qK rfl rfl rfl rfl (qK rfl rfl rfl rfl (qX rfl rfl rfl rfl (qL (k:=0) rfl rfl rfl rfl υ'69 rfl ζ'66 rfl ?_)))
 refine qP (j:=0) rfl rfl rfl rfl α'66 Tk Az (by rfl) ?_
 refine cH rfl rfl rfl rfl υ'66 ?_
 refine qN rfl rfl rfl rfl rfl (sK _ _ _ _) ?_
 refine qS (qW [0,5,71] (e':=[(0,_),(5,_),(71,_)]) rfl ?_)
 refine qQ ?_
 refine qB rfl (fun hlt=>?_) (fun hlt=>?_)
 ·
  obtain ⟨x,hx⟩:=cP (l:=C) (i:=i) Om
  obtain ⟨a2,c2,x3⟩:=x
  have hxb:x3.length≤65535:=hbc _ (List.mem_of_getElem? hx)
  obtain ⟨y,hy⟩:=cP (l:=U) (i:=i) (by have:=hWc.len;omega)
  obtain ⟨a1,c1,y3⟩:=y
  obtain ⟨hs1,hs2,hs3,hs4⟩:=hWc.same i _ _ hx hy
  simp only at hs1 hs2 hs3 hs4
  subst hs1 hs2
  refine qF (qQ (qG (kS (qG (qC (.q 0 (.done)) Kr ?_)))))
  refine qR rfl rfl rfl rfl (qS (qQ (kS (s_big_take (f:=owA 1 encU) (L:=U) Tk hy ?_))))
  refine cD (α:=Nat × List Int) (fun (x_:Nat × List Int)=>match x_ with | (k,l)=>k≤x3.length∧(l.length=x3.length)∧(∀ q,q < k→l[q]?=some (wmC i q))) (fun (x_:Nat × List Int)=>match x_ with | (k,l)=>[(6,.int .i64 ((k:Nat):Int))]) (fun (x_:Nat × List Int)=>match x_ with | (k,l)=>[own 1 encU a1 c1 l]) (fun (x_:Nat × List Int)=>match x_ with | (k,l)=>x3.length - k) [0,5] (er:=[(0,_),(5,_)]) rfl (0,y3) ?_ (by exact ⟨rfl,trivial⟩) (by exact Takes.cons Take.here Takes.nil) ?_
  · exact ⟨Nat.zero_le _,hs3,fun q hq=>by omega⟩
  rintro ⟨k,l⟩ ⟨hle_k,hll,hlq⟩
  try simp only [List.cons_append,List.nil_append]
  refine qG (qG (qC (.q 0 (.q 1 (.q 2 (.q 3 (.q 4 (.q 5 (.q 6 (.q 7 (.q 8 (.q 9 (.done))))))))))) Kr ?_))
  refine qK rfl rfl rfl rfl (qK rfl rfl rfl rfl (qX rfl rfl rfl rfl (qL (k:=0) rfl rfl rfl rfl υ'69 rfl ζ'66 rfl ?_)))
  refine qP (j:=0) rfl rfl rfl rfl α'66 Tk Az (by rfl) ?_
  refine qK rfl rfl rfl rfl (kY (sz:=0) (k:=i) (enc:=encH) (xs:=C) rfl rfl rfl rfl rfl υ'66 ζ'50 hx (by first | rfl | omega) Om Tk ?_)
  intro ib80 io80 ha80 hl80 hc80
  refine kQ (v:=(.slice a1 x3.length c1)) (j:=0) (k':=i) (enc:=encH) (off:=io80) rfl rfl rfl rfl α'50 ha80 kD hx Tk (by first | rfl | exact (Nat.add_zero _).symm | omega) (by rfl) ?_
  refine cH rfl rfl rfl rfl υ'50 ?_
  refine qN rfl rfl rfl rfl rfl (sK _ _ _ _) ?_
  refine qS (qW [0,5,6,83] (e':=[(0,_),(5,_),(6,_),(83,_)]) rfl ?_)
  refine qQ ?_
  refine qB rfl (fun hlk=>?_) (fun hlk=>?_)
  ·
   refine qF (qQ (qG (kS (qC (.q 0 (.q 1 (.q 2 (.q 3 (.q 4 (.q 5 (.q 6 (.q 7 (.q 8 (.q 9 (.q 10 (.q 11 (.q 12 (.q 13 (.q 14 ((.l 15 [] (.done)))))))))))))))))) Kr ?_))))
   refine qK rfl rfl rfl rfl (qX rfl rfl rfl rfl (qL (k:=0) rfl rfl rfl rfl υ'69 rfl ζ'66 rfl ?_))
   refine qP (j:=0) rfl rfl rfl rfl α'66 Tk Az (by rfl) ?_
   refine qK rfl rfl rfl rfl (kY (sz:=0) (k:=i) (enc:=encH) (xs:=C) rfl rfl rfl rfl rfl υ'66 ζ'50 hx (by first | rfl | omega) Om Tk ?_)
   intro ib91 io91 ha91 hl91 hc91
   refine kQ (v:=(.slice a1 x3.length c1)) (j:=0) (k':=i) (enc:=encH) (off:=io91) rfl rfl rfl rfl α'50 ha91 kD hx Tk (by first | rfl | exact (Nat.add_zero _).symm | omega) (by rfl) ?_
   refine qK rfl rfl rfl rfl (qK rfl rfl rfl rfl (qN rfl rfl rfl rfl rfl (b_mul' _ (by exact kG Om Om)) ?_))
   refine qN rfl rfl rfl rfl rfl (cV _ (by exact kG Om Om)) ?_
   refine qK rfl rfl rfl rfl (qN rfl rfl rfl rfl rfl (cV _ (by exact kG Om Om)) ?_)
   refine q_conv' rfl rfl rfl rfl υ'48 υ'3 (by exact fits_u64 Om Om) ?_
   obtain ⟨e_3,he_3⟩:=cP (l:=l) (i:=k) (by first | omega | (simp;done) | (simp;omega))
   refine kY (sz:=0) (k:=k) (enc:=encU) (xs:=l) rfl rfl rfl rfl rfl υ'50 ζ'48 he_3 (by first | rfl | omega) Om Tk ?_
   intro ib100 io100 ha100 hl100 hc100
   refine kJ (j:=0) (k:=k) (q:=(wmC i k)) (enc:=encU) (off:=io100) rfl rfl rfl rfl ζ'48 (us:=[_]) rfl rfl rfl ha100 encU_len he_3 Tk (by first | rfl | exact (Nat.add_zero _).symm | omega) (by first | decide | exact Nat.le_of_ble_eq_true rfl) (by rfl) ?_
   refine qV (qS (qW [0,5,6] (e':=[(0,_),(5,_),(6,_)]) rfl ?_))
   refine kK (qQ (qC (.q 0 (.q 1 (.q 2 (.done)))) Kr ?_))
   refine qK rfl rfl rfl rfl (qN rfl rfl rfl rfl rfl (cV _ (by exact kG Om Om)) ?_)
   refine qR rfl rfl rfl rfl (qS (qQ ?_))
   refine cQ (x:=(k,l)) ((k+1,l.set k (wmC i k))) ?_ ?_ ?_ ?_
   · try dsimp only
     exact ⟨by omega,by rw [List.length_set];exact hll,fun q hq=>by
         by_cases hqk:q=k
         · subst hqk;rw [List.getElem?_set_self Om]
         · rw [List.getElem?_set_ne (Ne.symm hqk)];exact hlq q Om⟩
   · show x3.length - (k+1) < x3.length - k;omega
   · exact ⟨rfl,rfl,rfl,trivial⟩
   · (try simp only [List.cons_append,List.nil_append]);exact Tf
  refine cM (qZ (qZ (kV (kK (qQ (qC (.q 0 (.q 1 (.q 2 (.done)))) Kr ?_))))))
  refine qK rfl rfl rfl rfl (qN rfl rfl rfl rfl rfl (cV _ (by exact kG Om Om)) ?_)
  refine qR rfl rfl rfl rfl (qS (qW [0,5] (e':=[(0,_),(5,_)]) rfl ?_))
  refine qQ ?_
  obtain rfl:k=x3.length:=by omega
  refine s_big_put (f:=owA 1 encU) (L:=U) (i:=i) (y:=(a1,c1,l)) Ts (List.getElem?_eq_some_iff.1 hy).1 ?_
  refine cQ (x:=(i,U)) ((i+1,U.set i (a1,c1,l))) ?_ ?_ ?_ ?_
  · try dsimp only
    exact ⟨by omega,wia_next hWc hx hy l (mks_of hll fun q hq=>hlq q Om)⟩
  · show C.length - (i+1) < C.length - i;omega
  · exact ⟨rfl,rfl,trivial⟩
  · (try simp only [List.cons_append,List.nil_append]);exact Tf
 refine cM (qZ (qZ (kV (qQ (qG (qG ?_))))))
 obtain rfl:i=C.length:=by omega
 refine qC (.q 0 (.done)) Kr ?_
 refine qR rfl rfl rfl rfl (qS (qQ (kS ?_)))
 refine cD (α:=Nat × List (LstA T2)) (fun (x_:Nat × List (LstA T2))=>match x_ with | (i,UF)=>i≤F.length∧(WIA wmF F UF i)) (fun (x_:Nat × List (LstA T2))=>match x_ with | (i,UF)=>[(7,.int .i64 ((i:Nat):Int))]) (fun (x_:Nat × List (LstA T2))=>match x_ with | (i,UF)=>[bigS (owA 2 enc2) UF]) (fun (x_:Nat × List (LstA T2))=>match x_ with | (i,UF)=>F.length - i) [0] (er:=[(0,_)]) rfl (0,F) ?_ (by exact ⟨rfl,trivial⟩) (by (try dsimp only);(try simp only [Nat.add_zero,Nat.zero_add]);(repeat ((with_reducible apply Z2);focus (first | (with_reducible (repeat (first | exact Z0 | apply Z1));done) | (repeat (first | exact Z0 | apply Z1)))));exact Z3) ?_
 · exact ⟨Nat.zero_le _,wia_start _ F⟩
 rintro ⟨i,UF⟩ ⟨hle_i,hWf⟩
 try simp only [List.cons_append,List.nil_append]
 refine qG (qG (qC (.q 0 (.q 1 (.q 2 (.q 3 (.q 4 (.q 5 (.q 6 (.done)))))))) Kr ?_))
 refine qK rfl rfl rfl rfl (qK rfl rfl rfl rfl (qX rfl rfl rfl rfl (qL (k:=3) rfl rfl rfl rfl υ'69 rfl ζ'67 rfl ?_)))
 refine qP (j:=3) rfl rfl rfl rfl α'67 Tk Az (by rfl) ?_
 refine cH rfl rfl rfl rfl υ'67 ?_
 refine qN rfl rfl rfl rfl rfl (sK _ _ _ _) ?_
 refine qS (qW [0,7,107] (e':=[(0,_),(7,_),(107,_)]) rfl ?_)
 refine qQ ?_
 refine qB rfl (fun hlt=>?_) (fun hlt=>?_)
 ·
  obtain ⟨x,hx⟩:=cP (l:=F) (i:=i) Om
  obtain ⟨a2,c2,x3⟩:=x
  have hxb:x3.length≤65535:=hbf _ (List.mem_of_getElem? hx)
  obtain ⟨y,hy⟩:=cP (l:=UF) (i:=i) (by have:=hWf.len;omega)
  obtain ⟨a1,c1,y3⟩:=y
  obtain ⟨hs1,hs2,hs3,hs4⟩:=hWf.same i _ _ hx hy
  simp only at hs1 hs2 hs3 hs4
  subst hs1 hs2
  refine qF (qQ (qG (kS (qG (qC (.q 0 (.done)) Kr ?_)))))
  refine qR rfl rfl rfl rfl (qS (qQ (kS (s_big_take (f:=owA 2 enc2) (L:=UF) Tk hy ?_))))
  refine cD (α:=Nat × List T2) (fun (x_:Nat × List T2)=>match x_ with | (k,l)=>k≤x3.length∧(l.length=x3.length)∧(∀ q,q < k→l[q]?=some (wmF i q))) (fun (x_:Nat × List T2)=>match x_ with | (k,l)=>[(8,.int .i64 ((k:Nat):Int))]) (fun (x_:Nat × List T2)=>match x_ with | (k,l)=>[own 2 enc2 a1 c1 l]) (fun (x_:Nat × List T2)=>match x_ with | (k,l)=>x3.length - k) [0,7] (er:=[(0,_),(7,_)]) rfl (0,y3) ?_ (by exact ⟨rfl,trivial⟩) (by exact Takes.cons Take.here Takes.nil) ?_
  · exact ⟨Nat.zero_le _,hs3,fun q hq=>by omega⟩
  rintro ⟨k,l⟩ ⟨hle_k,hll,hlq⟩
  try simp only [List.cons_append,List.nil_append]
  refine qG (qG (qC (.q 0 (.q 1 (.q 2 (.q 3 (.q 4 (.q 5 (.q 6 (.q 7 (.q 8 (.q 9 (.done))))))))))) Kr ?_))
  refine qK rfl rfl rfl rfl (qK rfl rfl rfl rfl (qX rfl rfl rfl rfl (qL (k:=3) rfl rfl rfl rfl υ'69 rfl ζ'67 rfl ?_)))
  refine qP (j:=3) rfl rfl rfl rfl α'67 Tk Az (by rfl) ?_
  refine qK rfl rfl rfl rfl (kY (sz:=0) (k:=i) (enc:=encH) (xs:=F) rfl rfl rfl rfl rfl υ'67 ζ'61 hx (by first | rfl | omega) Om Tk ?_)
  intro ib116 io116 ha116 hl116 hc116
  refine kQ (v:=(.slice a1 x3.length c1)) (j:=0) (k':=i) (enc:=encH) (off:=io116) rfl rfl rfl rfl α'61 ha116 kD hx Tk (by first | rfl | exact (Nat.add_zero _).symm | omega) (by rfl) ?_
  refine cH rfl rfl rfl rfl υ'61 ?_
  refine qN rfl rfl rfl rfl rfl (sK _ _ _ _) ?_
  refine qS (qW [0,7,8,119] (e':=[(0,_),(7,_),(8,_),(119,_)]) rfl ?_)
  refine qQ ?_
  refine qB rfl (fun hlk=>?_) (fun hlk=>?_)
  ·
   refine qF (qQ (qG (kS (qC (.q 0 (.q 1 (.q 2 (.q 3 (.q 4 (.q 5 (.q 6 (.q 7 (.q 8 (.q 9 (.q 10 (.q 11 (.q 12 ((.l 13 [] (.done)))))))))))))))) Kr ?_))))
   refine qK rfl rfl rfl rfl (qX rfl rfl rfl rfl (qL (k:=3) rfl rfl rfl rfl υ'69 rfl ζ'67 rfl ?_))
   refine qP (j:=3) rfl rfl rfl rfl α'67 Tk Az (by rfl) ?_
   refine qK rfl rfl rfl rfl (kY (sz:=0) (k:=i) (enc:=encH) (xs:=F) rfl rfl rfl rfl rfl υ'67 ζ'61 hx (by first | rfl | omega) Om Tk ?_)
   intro ib127 io127 ha127 hl127 hc127
   refine kQ (v:=(.slice a1 x3.length c1)) (j:=0) (k':=i) (enc:=encH) (off:=io127) rfl rfl rfl rfl α'61 ha127 kD hx Tk (by first | rfl | exact (Nat.add_zero _).symm | omega) (by rfl) ?_
   refine qK rfl rfl rfl rfl (qK rfl rfl rfl rfl (qN rfl rfl rfl rfl rfl (b_sub' _ (by exact kG Om Om)) ?_))
   refine qK rfl rfl rfl rfl (cX rfl rfl rfl rfl (vs:=[_,_]) (kM υ'101 ω'101 (ps:=[(0,1),(1,1)]) ⟨rfl,ζ'3,rfl,ζ'3,trivial⟩ rfl) ?_)
   obtain ⟨e_4,he_4⟩:=cP (l:=l) (i:=k) (by first | omega | (simp;done) | (simp;omega))
   refine kY (sz:=1) (k:=k) (enc:=enc2) (xs:=l) rfl rfl rfl rfl rfl υ'61 ζ'101 he_4 (by first | rfl | omega) Om Tk ?_
   intro ib134 io134 ha134 hl134 hc134
   refine kJ (j:=0) (k:=k) (q:=(wmF i k)) (enc:=enc2) (off:=io134) rfl rfl rfl rfl ζ'101 (us:=[_,_]) rfl rfl rfl ha134 enc2_len he_4 Tk (by first | rfl | exact (Nat.add_zero _).symm | omega) (by first | decide | exact Nat.le_of_ble_eq_true rfl) (by rfl) ?_
   refine qV (qS (qW [0,7,8] (e':=[(0,_),(7,_),(8,_)]) rfl ?_))
   refine kK (qQ (qC (.q 0 (.q 1 (.q 2 (.done)))) Kr ?_))
   refine qK rfl rfl rfl rfl (qN rfl rfl rfl rfl rfl (cV _ (by exact kG Om Om)) ?_)
   refine qR rfl rfl rfl rfl (qS (qQ ?_))
   refine cQ (x:=(k,l)) ((k+1,l.set k (wmF i k))) ?_ ?_ ?_ ?_
   · try dsimp only
     exact ⟨by omega,by rw [List.length_set];exact hll,fun q hq=>by
         by_cases hqk:q=k
         · subst hqk;rw [List.getElem?_set_self Om]
         · rw [List.getElem?_set_ne (Ne.symm hqk)];exact hlq q Om⟩
   · show x3.length - (k+1) < x3.length - k;omega
   · exact ⟨rfl,rfl,rfl,trivial⟩
   · (try simp only [List.cons_append,List.nil_append]);exact Tf
  refine cM (qZ (qZ (kV (kK (qQ (qC (.q 0 (.q 1 (.q 2 (.done)))) Kr ?_))))))
  refine qK rfl rfl rfl rfl (qN rfl rfl rfl rfl rfl (cV _ (by exact kG Om Om)) ?_)
  refine qR rfl rfl rfl rfl (qS (qW [0,7] (e':=[(0,_),(7,_)]) rfl ?_))
  refine qQ ?_
  obtain rfl:k=x3.length:=by omega
  refine s_big_put (f:=owA 2 enc2) (L:=UF) (i:=i) (y:=(a1,c1,l)) Ts (List.getElem?_eq_some_iff.1 hy).1 ?_
  refine cQ (x:=(i,UF)) ((i+1,UF.set i (a1,c1,l))) ?_ ?_ ?_ ?_
  · try dsimp only
    exact ⟨by omega,wia_next hWf hx hy l (mks_of hll fun q hq=>hlq q Om)⟩
  · show F.length - (i+1) < F.length - i;omega
  · exact ⟨rfl,rfl,trivial⟩
  · (try simp only [List.cons_append,List.nil_append]);exact Tf
 refine cM (qZ (qZ (kV (qQ (qG (qG ?_))))))
 obtain rfl:i=F.length:=by omega
 refine qC (.q 0 (.done)) Kr ?_
 refine qR rfl rfl rfl rfl (qS (qQ (kS (sH (f:=f2A 1 encU) ?_))))
 refine kF (fun _ h=>cJ (sz:=1) (enc:=(encH:LstA Int→List Value)) h) ?_
 refine cD (α:=Nat × List (PLA Int) × Option Addr × Nat) (fun (x_:Nat × List (PLA Int) × Option Addr × Nat)=>match x_ with | (j,M,amc,cmc)=>j≤C.length∧(MOA wmC wvC 40 C M j)) (fun (x_:Nat × List (PLA Int) × Option Addr × Nat)=>match x_ with | (j,M,amc,cmc)=>[(9,.int .i64 ((j:Nat):Int))]) (fun (x_:Nat × List (PLA Int) × Option Addr × Nat)=>match x_ with | (j,M,amc,cmc)=>[bigS (f2A 1 encU) M,bigS (owA 1 encU) (U.drop j),cells b 0 [.slice ca C.length cc,.slice wa W.length wc,.slice amc ((M.map (·.2)).length) cmc,.slice fa F.length fc,.slice ga G.length gc,.slice none 0 0],own 1 encH ca cc C,own 1 encH amc cmc (M.map (·.2)),own 1 encH fa fc F]) (fun (x_:Nat × List (PLA Int) × Option Addr × Nat)=>match x_ with | (j,M,amc,cmc)=>C.length - j) [0] (er:=[(0,_)]) rfl (0,[],none,0) ?_ (by exact ⟨rfl,trivial⟩) (by dsimp only;rw [List.drop_zero,List.map_nil,List.length_nil];(repeat ((with_reducible apply Z2);focus (first | (with_reducible (repeat (first | exact Z0 | apply Z1));done) | (repeat (first | exact Z0 | apply Z1)))));exact Z3) ?_
 · exact ⟨Nat.zero_le _,⟨rfl,fun j x p _ h=>by simp at h⟩⟩
 rintro ⟨j,M,amc,cmc⟩ ⟨hle_j,hMc⟩
 try simp only [List.cons_append,List.nil_append]
 have hml:=hMc.len
 have hmm:(M.map (·.2)).length=M.length:=List.length_map _
 refine qG (qG (qC (.q 0 (.q 1 (.q 2 (.q 3 (.q 4 (.q 5 (.q 6 (.done)))))))) Kr ?_))
 refine qK rfl rfl rfl rfl (qK rfl rfl rfl rfl (qX rfl rfl rfl rfl (qL (k:=0) rfl rfl rfl rfl υ'69 rfl ζ'66 rfl ?_)))
 refine qP (j:=0) rfl rfl rfl rfl α'66 Tk Az (by rfl) ?_
 refine cH rfl rfl rfl rfl υ'66 ?_
 refine qN rfl rfl rfl rfl rfl (sK _ _ _ _) ?_
 refine qS (qW [0,9,141] (e':=[(0,_),(9,_),(141,_)]) rfl ?_)
 refine qQ ?_
 refine qB rfl (fun hlj=>?_) (fun hlj=>?_)
 ·
  obtain ⟨x,hx⟩:=cP (l:=C) (i:=j) Om
  obtain ⟨a2,c2,x3⟩:=x
  have hxb:x3.length≤65535:=hbc _ (List.mem_of_getElem? hx)
  obtain ⟨y,hy⟩:=cP (l:=U) (i:=j) (by have:=hWc.len;omega)
  obtain ⟨a1,c1,y3⟩:=y
  obtain ⟨hs1,hs2,hs3,hs4⟩:=hWc.same j _ _ hx hy
  simp only at hs1 hs2 hs3 hs4
  subst hs1 hs2
  obtain rfl:=hs4 Om
  refine qF (qQ (qG (kS (qG (qC (.q 0 (.q 1 (.q 2 (.q 3 (.q 4 (.q 5 (.q 6 (.q 7 (.done))))))))) Kr ?_)))))
  refine qK rfl rfl rfl rfl (qX rfl rfl rfl rfl (qL (k:=0) rfl rfl rfl rfl υ'69 rfl ζ'66 rfl ?_))
  refine qP (j:=0) rfl rfl rfl rfl α'66 Tk Az (by rfl) ?_
  refine qK rfl rfl rfl rfl (kY (sz:=0) (k:=j) (enc:=encH) (xs:=C) rfl rfl rfl rfl rfl υ'66 ζ'50 hx (by first | rfl | omega) Om Tk ?_)
  intro ib149 io149 ha149 hl149 hc149
  refine kQ (v:=(.slice a1 x3.length c1)) (j:=0) (k':=j) (enc:=encH) (off:=io149) rfl rfl rfl rfl α'50 ha149 kD hx Tk (by first | rfl | exact (Nat.add_zero _).symm | omega) (by rfl) ?_
  refine qR rfl rfl rfl rfl (qS (qW [0,9,10] (e':=[(0,_),(9,_),(10,_)]) rfl ?_))
  refine qQ (qG (qG (qC (.q 0 (.done)) Kr ?_)))
  refine qR rfl rfl rfl rfl (qS (qQ (kS ?_)))
  refine s_big_take (f:=owA 1 encU) (L:=U.drop j) (i:=0) (x:=(a1,c1,mks (wmC j) x3.length)) Tk (by rw [List.getElem?_drop];exact hy) ?_
  refine kF (fun _ h=>app2_start h) ?_
  refine cD (α:=Nat × Option Addr × Nat) (fun (x_:Nat × Option Addr × Nat)=>match x_ with | (k,an,cn)=>k≤40∧True) (fun (x_:Nat × Option Addr × Nat)=>match x_ with | (k,an,cn)=>[(10,.slice an (x3.length+k) cn),(11,.int .i64 ((k:Nat):Int))]) (fun (x_:Nat × Option Addr × Nat)=>match x_ with | (k,an,cn)=>[app2 1 encU a1 c1 (mks (wmC j) x3.length) an cn (mks (wmC j) x3.length++mks (wvC j) k)]) (fun (x_:Nat × Option Addr × Nat)=>match x_ with | (k,an,cn)=>40 - k) [0,9] (er:=[(0,_),(9,_)]) rfl (0,a1,c1) ?_ (by exact ⟨rfl,rfl,trivial⟩) (by dsimp only;rw [show mks (wvC j) 0=[] from rfl,List.append_nil];exact Takes.cons Take.here Takes.nil) ?_
  · exact ⟨Nat.zero_le _,trivial⟩
  rintro ⟨k,an,cn⟩ ⟨hle_k,hc_⟩
  try simp only [List.cons_append,List.nil_append]
  refine qG (qG (qC (.q 0 (.q 1 (.done))) Kr ?_))
  refine qK rfl rfl rfl rfl (qN rfl rfl rfl rfl rfl (sK _ _ _ _) ?_)
  refine qS (qQ ?_)
  refine qB rfl (fun hlk=>?_) (fun hlk=>?_)
  ·
   refine qF (qQ (qG (kS (qC (.q 0 (.q 1 (.q 2 (.q 3 ((.l 4 [] ((.l 5 [] (.q 6 (.done)))))))))) Kr ?_))))
   refine qK rfl rfl rfl rfl (qK rfl rfl rfl rfl (qN rfl rfl rfl rfl rfl (cV _ (by exact kG Om Om)) ?_))
   refine q_conv' rfl rfl rfl rfl υ'48 υ'3 (by exact fits_u64 Om Om) ?_
   refine cG rfl rfl rfl rfl (cB (us:=[_]) υ'50 ζ'48 rfl ω'48 rfl rfl rfl) ?_
   intro b159
   refine qV (l_appendA (sz:=1) rfl rfl rfl rfl rfl υ'50 τ'48 rfl rfl rfl (by decide) Tk Tk (by rw [List.length_append,mks_len,mks_len]) (ys:=[wvC j k]) (sW sC) (by rfl) (by rfl) encU_len encU_one Om (by show _*8≤_;omega) (mks_take _ _ _) ?_)
   intro an2 cn2
   refine qV (qR rfl rfl rfl rfl (qS (qW [0,9,10,11] (e':=[(0,_),(9,_),(10,_),(11,_)]) rfl ?_)))
   refine kK (qQ (qC (.q 0 (.q 1 (.q 2 (.done)))) Kr ?_))
   refine qK rfl rfl rfl rfl (qN rfl rfl rfl rfl rfl (cV _ (by exact kG Om Om)) ?_)
   refine qR rfl rfl rfl rfl (qS (qQ ?_))
   rw [List.append_assoc,mks_next]
   refine kH 10 rfl (v':=.slice an2 (x3.length+(k+1)) cn2) (by first | rfl | (congr 1;done) | (congr 1 <;> first | rfl | omega | (simp;done) | (simp;omega))) ?_
   refine cQ (x:=(k,an,cn)) ((k+1,an2,cn2)) ?_ ?_ ?_ ?_
   · try dsimp only
     exact ⟨by omega,trivial⟩
   · show 40 - (k+1) < 40 - k;omega
   · exact ⟨rfl,rfl,rfl,rfl,trivial⟩
   · (try simp only [List.cons_append,List.nil_append]);exact Tf
  refine cM (qZ (qZ (kV (qQ (qC (.q 0 (.q 1 (.q 2 (.q 3 (.q 4 (.q 5 ((.l 6 [] ((.l 7 [] (.q 8 (.q 9 ((.l 10 [] (.done))))))))))))))) Kr ?_)))))
  refine qK rfl rfl rfl rfl (qK rfl rfl rfl rfl (qX rfl rfl rfl rfl (qL (k:=2) rfl rfl rfl rfl υ'69 rfl ζ'66 rfl ?_)))
  refine qP (j:=2) rfl rfl rfl rfl α'66 Tk Az (by rfl) ?_
  refine qK rfl rfl rfl rfl (cG rfl rfl rfl rfl (cB (us:=[_]) υ'66 ζ'50 rfl Try.zeroValue50 rfl rfl rfl) ?_)
  intro b167
  refine qV (sV (sz:=1) (enc:=encH) (xs:=(M.map (·.2))) rfl rfl rfl rfl rfl υ'66 τ'50 rfl rfl rfl (by decide) Tk Tk (by first | rfl | omega | (simp;done) | (simp;omega)) (ys:=[((an,cn,mks (wmC j) x3.length++mks (wvC j) 40):LstA Int)]) (sW sC) (by simp [encH,mks_len];omega) (by first | rfl | omega) (kD) (encH_one) Om (by show _*24≤_;omega) ?_)
  intro ao168 cp168
  refine qV (qX rfl rfl rfl rfl (qL (k:=2) rfl rfl rfl rfl υ'69 rfl ζ'66 rfl ?_))
  refine kR (j:=2) rfl rfl rfl rfl ζ'66 (us:=[_]) rfl rfl rfl Tk Az (by first | decide | (simp;done) | omega) ?_
  simp only [setL,List.set]
  refine qV (qS (qW [0,9] (e':=[(0,_),(9,_)]) rfl ?_))
  refine kK (qQ (qC (.q 0 (.q 1 (.q 2 (.done)))) Kr ?_))
  refine qK rfl rfl rfl rfl (qN rfl rfl rfl rfl rfl (cV _ (by exact kG Om Om)) ?_)
  refine qR rfl rfl rfl rfl (qS (qQ ?_))
  obtain rfl:k=40:=by omega
  refine rS (f:=f2A 1 encU) (L:=M) (x:=((a1,c1,mks (wmC j) x3.length),(an,cn,mks (wmC j) x3.length++mks (wvC j) 40))) Ts ?_
  rw [List.eraseIdx_zero,List.tail_drop,show M.map (·.2)++[(an,cn,mks (wmC j) x3.length++mks (wvC j) 40)]=(M++[((a1,c1,mks (wmC j) x3.length),(an,cn,mks (wmC j) x3.length++mks (wvC j) 40))]).map (·.2) from by simp]
  have hq1:((M++[((a1,c1,mks (wmC j) x3.length),(an,cn,mks (wmC j) x3.length++mks (wvC j) 40))]).map (·.2)).length=(M.map (·.2)).length+1:=by simp
  refine cK (A:=cells b 0 [.slice ca C.length cc,.slice wa W.length wc,.slice ao168 ((M.map (·.2)).length+1) cp168,.slice fa F.length fc,.slice ga G.length gc,.slice none 0 0]) Td ?_
  refine kF (Γ':=cells b 0 [.slice ca C.length cc,.slice wa W.length wc,.slice ao168 (((M++[((a1,c1,mks (wmC j) x3.length),(an,cn,mks (wmC j) x3.length++mks (wvC j) 40))]).map (·.2)).length) cp168,.slice fa F.length fc,.slice ga G.length gc,.slice none 0 0]::_) (fun _ h=>(by rw [hq1];exact h)) ?_
  refine cQ (x:=(j,M,amc,cmc)) ((j+1,(M++[((a1,c1,mks (wmC j) x3.length),(an,cn,mks (wmC j) x3.length++mks (wvC j) 40))]),ao168,cp168)) ?_ ?_ ?_ ?_
  · try dsimp only
    exact ⟨by omega,moa_next hMc hx rfl rfl⟩
  · show C.length - (j+1) < C.length - j;omega
  · exact ⟨rfl,rfl,trivial⟩
  · (try simp only [List.cons_append,List.nil_append]);exact Tf
 refine cM (qZ (qZ (kV (qQ (qG (qG ?_))))))
 obtain rfl:j=C.length:=by omega
 refine qC (.q 0 (.done)) Kr ?_
 refine qR rfl rfl rfl rfl (qS (qQ (kS (sH (f:=f2A 2 enc2) ?_))))
 refine kF (fun _ h=>cJ (sz:=1) (enc:=(encH:LstA T2→List Value)) h) ?_
 refine cD (α:=Nat × List (PLA T2) × Option Addr × Nat) (fun (x_:Nat × List (PLA T2) × Option Addr × Nat)=>match x_ with | (j,MF,amf,cmf)=>j≤F.length∧(MOA wmF wvF 40 F MF j)) (fun (x_:Nat × List (PLA T2) × Option Addr × Nat)=>match x_ with | (j,MF,amf,cmf)=>[(12,.int .i64 ((j:Nat):Int))]) (fun (x_:Nat × List (PLA T2) × Option Addr × Nat)=>match x_ with | (j,MF,amf,cmf)=>[bigS (f2A 2 enc2) MF,bigS (owA 2 enc2) (UF.drop j),cells b 0 [.slice ca C.length cc,.slice wa W.length wc,.slice amc ((M.map (·.2)).length) cmc,.slice fa F.length fc,.slice ga G.length gc,.slice amf ((MF.map (·.2)).length) cmf],own 1 encH ca cc C,own 1 encH amc cmc (M.map (·.2)),own 1 encH fa fc F,own 1 encH amf cmf (MF.map (·.2))]) (fun (x_:Nat × List (PLA T2) × Option Addr × Nat)=>match x_ with | (j,MF,amf,cmf)=>F.length - j) [0] (er:=[(0,_)]) rfl (0,[],none,0) ?_ (by exact ⟨rfl,trivial⟩) (by dsimp only;rw [List.drop_zero,List.map_nil,List.length_nil];(repeat ((with_reducible apply Z2);focus (first | (with_reducible (repeat (first | exact Z0 | apply Z1));done) | (repeat (first | exact Z0 | apply Z1)))));exact Z3) ?_
 · exact ⟨Nat.zero_le _,⟨rfl,fun j x p _ h=>by simp at h⟩⟩
 rintro ⟨j,MF,amf,cmf⟩ ⟨hle_j,hMf⟩
 try simp only [List.cons_append,List.nil_append]
 have hml:=hMf.len
 have hmm:(MF.map (·.2)).length=MF.length:=List.length_map _
 refine qG (qG (qC (.q 0 (.q 1 (.q 2 (.q 3 (.q 4 (.q 5 (.q 6 (.done)))))))) Kr ?_))
 refine qK rfl rfl rfl rfl (qK rfl rfl rfl rfl (qX rfl rfl rfl rfl (qL (k:=3) rfl rfl rfl rfl υ'69 rfl ζ'67 rfl ?_)))
 refine qP (j:=3) rfl rfl rfl rfl α'67 Tk Az (by rfl) ?_
 refine cH rfl rfl rfl rfl υ'67 ?_
 refine qN rfl rfl rfl rfl rfl (sK _ _ _ _) ?_
 refine qS (qW [0,12,177] (e':=[(0,_),(12,_),(177,_)]) rfl ?_)
 refine qQ ?_
 refine qB rfl (fun hlj=>?_) (fun hlj=>?_)
 ·
  obtain ⟨x,hx⟩:=cP (l:=F) (i:=j) Om
  obtain ⟨a2,c2,x3⟩:=x
  have hxb:x3.length≤65535:=hbf _ (List.mem_of_getElem? hx)
  obtain ⟨y,hy⟩:=cP (l:=UF) (i:=j) (by have:=hWf.len;omega)
  obtain ⟨a1,c1,y3⟩:=y
  obtain ⟨hs1,hs2,hs3,hs4⟩:=hWf.same j _ _ hx hy
  simp only at hs1 hs2 hs3 hs4
  subst hs1 hs2
  obtain rfl:=hs4 Om
  refine qF (qQ (qG (kS (qG (qC (.q 0 (.q 1 (.q 2 (.q 3 (.q 4 (.q 5 (.q 6 (.q 7 (.done))))))))) Kr ?_)))))
  refine qK rfl rfl rfl rfl (qX rfl rfl rfl rfl (qL (k:=3) rfl rfl rfl rfl υ'69 rfl ζ'67 rfl ?_))
  refine qP (j:=3) rfl rfl rfl rfl α'67 Tk Az (by rfl) ?_
  refine qK rfl rfl rfl rfl (kY (sz:=0) (k:=j) (enc:=encH) (xs:=F) rfl rfl rfl rfl rfl υ'67 ζ'61 hx (by first | rfl | omega) Om Tk ?_)
  intro ib185 io185 ha185 hl185 hc185
  refine kQ (v:=(.slice a1 x3.length c1)) (j:=0) (k':=j) (enc:=encH) (off:=io185) rfl rfl rfl rfl α'61 ha185 kD hx Tk (by first | rfl | exact (Nat.add_zero _).symm | omega) (by rfl) ?_
  refine qR rfl rfl rfl rfl (qS (qW [0,12,13] (e':=[(0,_),(12,_),(13,_)]) rfl ?_))
  refine qQ (qG (qG (qC (.q 0 (.done)) Kr ?_)))
  refine qR rfl rfl rfl rfl (qS (qQ (kS ?_)))
  refine s_big_take (f:=owA 2 enc2) (L:=UF.drop j) (i:=0) (x:=(a1,c1,mks (wmF j) x3.length)) Tk (by rw [List.getElem?_drop];exact hy) ?_
  refine kF (fun _ h=>app2_start h) ?_
  refine cD (α:=Nat × Option Addr × Nat) (fun (x_:Nat × Option Addr × Nat)=>match x_ with | (k,an,cn)=>k≤40∧True) (fun (x_:Nat × Option Addr × Nat)=>match x_ with | (k,an,cn)=>[(13,.slice an (x3.length+k) cn),(14,.int .i64 ((k:Nat):Int))]) (fun (x_:Nat × Option Addr × Nat)=>match x_ with | (k,an,cn)=>[app2 2 enc2 a1 c1 (mks (wmF j) x3.length) an cn (mks (wmF j) x3.length++mks (wvF j) k)]) (fun (x_:Nat × Option Addr × Nat)=>match x_ with | (k,an,cn)=>40 - k) [0,12] (er:=[(0,_),(12,_)]) rfl (0,a1,c1) ?_ (by exact ⟨rfl,rfl,trivial⟩) (by dsimp only;rw [show mks (wvF j) 0=[] from rfl,List.append_nil];exact Takes.cons Take.here Takes.nil) ?_
  · exact ⟨Nat.zero_le _,trivial⟩
  rintro ⟨k,an,cn⟩ ⟨hle_k,hc_⟩
  try simp only [List.cons_append,List.nil_append]
  refine qG (qG (qC (.q 0 (.q 1 (.done))) Kr ?_))
  refine qK rfl rfl rfl rfl (qN rfl rfl rfl rfl rfl (sK _ _ _ _) ?_)
  refine qS (qQ ?_)
  refine qB rfl (fun hlk=>?_) (fun hlk=>?_)
  ·
   refine qF (qQ (qG (kS (qC (.q 0 (.q 1 (.q 2 (.q 3 ((.l 4 [] ((.l 5 [] (.q 6 (.done)))))))))) Kr ?_))))
   refine qK rfl rfl rfl rfl (qK rfl rfl rfl rfl (qN rfl rfl rfl rfl rfl (b_sub' _ (by exact kG Om Om)) ?_))
   refine cX rfl rfl rfl rfl (vs:=[_,_]) (kM υ'101 ω'101 (ps:=[(0,1),(1,1)]) ⟨rfl,ζ'3,rfl,ζ'3,trivial⟩ rfl) ?_
   refine cG rfl rfl rfl rfl (cB (us:=[_,_]) υ'61 ζ'101 rfl ω'101 rfl rfl rfl) ?_
   intro b195
   refine qV (l_appendA (sz:=2) rfl rfl rfl rfl rfl υ'61 Try.typeInfo101 rfl rfl rfl (by decide) Tk Tk (by rw [List.length_append,mks_len,mks_len]) (ys:=[wvF j k]) (sW sC) (by rfl) (by rfl) enc2_len enc2_one Om (by show _*16≤_;omega) (mks_take _ _ _) ?_)
   intro an2 cn2
   refine qV (qR rfl rfl rfl rfl (qS (qW [0,12,13,14] (e':=[(0,_),(12,_),(13,_),(14,_)]) rfl ?_)))
   refine kK (qQ (qC (.q 0 (.q 1 (.q 2 (.done)))) Kr ?_))
   refine qK rfl rfl rfl rfl (qN rfl rfl rfl rfl rfl (cV _ (by exact kG Om Om)) ?_)
   refine qR rfl rfl rfl rfl (qS (qQ ?_))
   rw [List.append_assoc,mks_next]
   refine kH 13 rfl (v':=.slice an2 (x3.length+(k+1)) cn2) (by first | rfl | (congr 1;done) | (congr 1 <;> first | rfl | omega | (simp;done) | (simp;omega))) ?_
   refine cQ (x:=(k,an,cn)) ((k+1,an2,cn2)) ?_ ?_ ?_ ?_
   · try dsimp only
     exact ⟨by omega,trivial⟩
   · show 40 - (k+1) < 40 - k;omega
   · exact ⟨rfl,rfl,rfl,rfl,trivial⟩
   · (try simp only [List.cons_append,List.nil_append]);exact Tf
  refine cM (qZ (qZ (kV (qQ (qC (.q 0 (.q 1 (.q 2 (.q 3 (.q 4 (.q 5 ((.l 6 [] ((.l 7 [] (.q 8 (.q 9 ((.l 10 [] (.done))))))))))))))) Kr ?_)))))
  refine qK rfl rfl rfl rfl (qK rfl rfl rfl rfl (qX rfl rfl rfl rfl (qL (k:=5) rfl rfl rfl rfl υ'69 rfl ζ'67 rfl ?_)))
  refine qP (j:=5) rfl rfl rfl rfl α'67 Tk Az (by rfl) ?_
  refine qK rfl rfl rfl rfl (cG rfl rfl rfl rfl (cB (us:=[_]) υ'67 ζ'61 rfl Try.zeroValue61 rfl rfl rfl) ?_)
  intro b203
  refine qV (sV (sz:=1) (enc:=encH) (xs:=(MF.map (·.2))) rfl rfl rfl rfl rfl υ'67 Try.typeInfo61 rfl rfl rfl (by decide) Tk Tk (by first | rfl | omega | (simp;done) | (simp;omega)) (ys:=[((an,cn,mks (wmF j) x3.length++mks (wvF j) 40):LstA T2)]) (sW sC) (by simp [encH,mks_len];omega) (by first | rfl | omega) (kD) (encH_one) Om (by show _*24≤_;omega) ?_)
  intro ao204 cp204
  refine qV (qX rfl rfl rfl rfl (qL (k:=5) rfl rfl rfl rfl υ'69 rfl ζ'67 rfl ?_))
  refine kR (j:=5) rfl rfl rfl rfl ζ'67 (us:=[_]) rfl rfl rfl Tk Az (by first | decide | (simp;done) | omega) ?_
  simp only [setL,List.set]
  refine qV (qS (qW [0,12] (e':=[(0,_),(12,_)]) rfl ?_))
  refine kK (qQ (qC (.q 0 (.q 1 (.q 2 (.done)))) Kr ?_))
  refine qK rfl rfl rfl rfl (qN rfl rfl rfl rfl rfl (cV _ (by exact kG Om Om)) ?_)
  refine qR rfl rfl rfl rfl (qS (qQ ?_))
  obtain rfl:k=40:=by omega
  refine rS (f:=f2A 2 enc2) (L:=MF) (x:=((a1,c1,mks (wmF j) x3.length),(an,cn,mks (wmF j) x3.length++mks (wvF j) 40))) Ts ?_
  rw [List.eraseIdx_zero,List.tail_drop,show MF.map (·.2)++[(an,cn,mks (wmF j) x3.length++mks (wvF j) 40)]=(MF++[((a1,c1,mks (wmF j) x3.length),(an,cn,mks (wmF j) x3.length++mks (wvF j) 40))]).map (·.2) from by simp]
  have hq1:((MF++[((a1,c1,mks (wmF j) x3.length),(an,cn,mks (wmF j) x3.length++mks (wvF j) 40))]).map (·.2)).length=(MF.map (·.2)).length+1:=by simp
  refine cK (A:=cells b 0 [.slice ca C.length cc,.slice wa W.length wc,.slice amc ((M.map (·.2)).length) cmc,.slice fa F.length fc,.slice ga G.length gc,.slice ao204 ((MF.map (·.2)).length+1) cp204]) Td ?_
  refine kF (Γ':=cells b 0 [.slice ca C.length cc,.slice wa W.length wc,.slice amc ((M.map (·.2)).length) cmc,.slice fa F.length fc,.slice ga G.length gc,.slice ao204 (((MF++[((a1,c1,mks (wmF j) x3.length),(an,cn,mks (wmF j) x3.length++mks (wvF j) 40))]).map (·.2)).length) cp204]::_) (fun _ h=>(by rw [hq1];exact h)) ?_
  refine cQ (x:=(j,MF,amf,cmf)) ((j+1,(MF++[((a1,c1,mks (wmF j) x3.length),(an,cn,mks (wmF j) x3.length++mks (wvF j) 40))]),ao204,cp204)) ?_ ?_ ?_ ?_
  · try dsimp only
    exact ⟨by omega,moa_next hMf hx rfl rfl⟩
  · show F.length - (j+1) < F.length - j;omega
  · exact ⟨rfl,rfl,trivial⟩
  · (try simp only [List.cons_append,List.nil_append]);exact Tf
 refine cM (qZ (qZ (kV (qQ (qG ?_)))))
 obtain rfl:j=F.length:=by omega
 refine qC (.q 0 ((.l 1 [] (.q 2 (.done))))) Kr ?_
 refine qK rfl rfl rfl rfl ?_
 have sp_5:=stands_spec b ca wa fa ga amc amf cc wc fc gc cmc cmf C W F G M MF hMc hMf hbc hbf Om Om
 refine qM rfl rfl rfl rfl rfl rfl Try.call70 (sp_5) Ts ?_
 rintro ⟨⟩ -
 try simp only [List.cons_append,List.nil_append]
 refine qV (qR rfl rfl rfl rfl (qS (qW [2] (e':=[(2,_)]) rfl ?_)))
 refine qQ (qJ (cR rfl rfl (()) (by first | rfl | (first | rfl | (congr 1;done) | (congr 1 <;> first | rfl | omega | (simp;done) | (simp;omega)))) (by trivial) ?_))
 exact Tf
end Go.Ab.Fr
