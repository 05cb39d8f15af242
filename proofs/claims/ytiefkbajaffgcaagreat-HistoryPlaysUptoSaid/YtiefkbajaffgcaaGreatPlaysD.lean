/- What the law Plays rests on, part 4 of 7. -/
import Derived.Test.YtiefkbajaffgcaaGreatPlaysC
import Derived.Shelf.Slices.In.SortAlone
import Derived.Shelf.Slices.In.SortNone
import Derived.Lib.SortBridge
import Derived.Sort.EveryDepth
import Derived.Laws.IdiomRangeMap
set_option linter.unusedVariables false
set_option linter.unusedSimpArgs false
set_option maxRecDepth 100000
namespace Go.Ab.Rv
open Go Go.Proofs Go.Ab Go.Ab.Fe Go.Ab.Vc Go.Ab.Dj
theorem vnext_can (pa:Option Addr) (pc b:Nat) (x:VS) (hx:VInv x) (hn:x.ck.n≤4000000000000) (pl:List Int) (hpl:x.ck.pa=pl) (k:Int) (t o:Nat) (hv:vcanF x k ((t:Nat):Int) ((o:Nat):Int)):Spec Tryz.prog 39 [.pointer (some ⟨b,0,none⟩),.agg #[.int .i64 k,.int .i64 ((t:Nat):Int),.int .i64 ((o:Nat):Int)]] [rvR pa pc b x,own 1 encZ pa pc pl] (fun (_:Unit)=>.tuple #[]) (fun _=>True) (fun _=>[rvR pa pc b (vnF x k ((t:Nat):Int) ((o:Nat):Int)),own 1 encZ pa pc pl]):=by
 refine kS (n:=162) Tryz.func39 J J J ?_
 intro Γ w0
 simp only [argE,Ca,Na,Zd,Nat.reduceAdd]
 refine qL (qC ((.l 0 [] (.done))) Kr ?_)
 refine sG J J J J (us:=[_,_,_]) J ?_
 intro b3
 refine qV (qS (qQ (qL ?_)))
 have hc:=hv.1
 obtain ⟨l,hth⟩:=th_some hx (can_th hc)
 obtain ⟨h0_,h1_⟩:=th_rng hx (can_th hc)
 have hlc:=hx.thc _ _ hth
 have hll:=hlc.len
 have hlg:=g_rng hlc.rng (by decide) t
 have htn:t < 65535:=by omega
 obtain ⟨o5,o7,o9,o10,o11⟩:=can_obj hx.ck hc
 rw [Int.toNat_natCast] at o5 o7 o9
 have hsh:=hx.ck.sh
 have hsT:=hsh.th
 have hsV:=hsh.vo
 have hsL:=hsh.lk
 have hOl:=hx.ck.ol
 have hrest:=nxF_pa x.ck k ((t:Nat):Int) ((o:Nat):Int)
 have hn0:=hx.ck.n0
 refine rv_open (pa:=pa) (pc:=pc) (b:=b) (x:=x) Tk fun cb Ta Tc La Lc Oa Oc Ra Rc VT VL VO VR YR hVT hVL hVO hVR hK=>?_
 have hTl:=hx.ck.tl
 obtain ⟨-,hts_,-⟩:=stF_nz (x:=x.ck) (t:=((t:Nat):Int)) ((hx.th _).1 (by rw [hth];rfl))
 rw [Int.toNat_natCast] at hts_
 have htt:(tabF x.ck.th.toNat x.th)[t]?=some (some l):=by rw [tab_get Om,hth]
 refine rQ (res:=optR) (V:=VT) (Y:=tabF x.ck.th.toNat x.th) (S:=[]) t Tk (by simp) htt fun ta hta=>?_
 refine optR_some (a:=ta) (t:=l) Tk fun tb htb=>?_
 subst htb
 refine kM J (.q 0 (.q 1 (.q 2 (.q 3 (.q 4 (.q 5 (.q 6 (.q 7 (.q 8 (.done)))))))))) Kr ?_
 refine qK J J J J (qZ J J J J (qG (k:=1) J J J J υ'104 J ζ'101 J ?_))
 refine qP (j:=1) J J J J α'101 Tk Az (by rfl) ?_
 refine qG (k:=1) J J J J υ'52 J ζ'3 J ?_
 refine qP (j:=1) J J J J α'3 Tk Az (by rfl) ?_
 refine cK (sz:=0) (k:=t) (enc:=encA) (xs:=VT) J J J J J υ'101 ζ'105 hta (by first | rfl | omega) Om Tk ?_
 intro ib16 io16 ha16 hl16 hc16
 refine cQ (v:=(.pointer (some ⟨tb,0,none⟩))) (j:=0) (k':=t) (enc:=encA) (off:=io16) J J J J α'105 ha16 encA_len hta Tk (by first | rfl | exact (Ad _).symm | omega) (by rfl) ?_
 refine qR J J J J (qS (qW [0,3,4] (e':=[(0,_),(3,_),(4,_)]) J ?_))
 refine qQ (qL (qL (qC (.q 0 (.q 1 (.done))) Kr ?_)))
 refine qG (k:=0) J J J J υ'52 J ζ'50 J ?_
 refine qP (j:=0) J J J J α'50 Tk Az (by rfl) ?_
 refine qS (qQ (kV (qL (qC (.q 0 (.q 1 (.done))) Kr ?_))))
 refine qD J J J J J (cZ _ _ _ _) ?_
 refine qR J J J J (qS (qQ ?_))
 refine qF J (fun k5=>?_) (fun k5=>?_)
 ·
  have hto:(tabF x.ck.lk.toNat x.lk)[o]?=some (x.lk ((o:Nat):Int)):=tab_get Om
  refine rQ (res:=optR) (V:=VL) (Y:=tabF x.ck.lk.toNat x.lk) (S:=[]) o Tk (by simp) hto fun ka hka=>?_
  refine kM J (.q 0 (.q 1 (.q 2 (.q 3 (.q 4 (.q 5 (.q 6 (.q 7 (.q 8 ((.l 9 [] (.done)))))))))))) Kr ?_
  refine qK J J J J (qK J J J J (qZ J J J J (qG (k:=2) J J J J υ'104 J ζ'101 J ?_)))
  refine qP (j:=2) J J J J α'101 Tk Az (by rfl) ?_
  refine qG (k:=2) J J J J υ'52 J ζ'3 J ?_
  refine qP (j:=2) J J J J α'3 Tk Az (by rfl) ?_
  refine cK (sz:=0) (k:=o) (enc:=encA) (xs:=VL) J J J J J υ'101 ζ'105 hka (by first | rfl | omega) Om Tk ?_
  intro ib29 io29 ha29 hl29 hc29
  refine cQ (v:=(.pointer ka)) (j:=0) (k':=o) (enc:=encA) (off:=io29) J J J J α'105 ha29 encA_len hka Tk (by first | rfl | exact (Ad _).symm | omega) (by rfl) ?_
  have sp_1:=joined_spec tb l ka (x.lk ((o:Nat):Int))
  refine qB J J J J J J κ'81 (sp_1) Ts ?_
  rintro ⟨⟩ -
  try simp only [Ca,Na]
  refine qV (qS (rX (res:=optR) (V:=VL) (Y:=tabF x.ck.lk.toNat x.lk) (S:=[]) o Ts (by simp) hka hto ?_))
  refine qW [0,3,4] (e':=[(0,_),(3,_),(4,_)]) J ?_
  refine kG (qQ (qL (qL (qC (.q 0 (.q 1 ((.l 2 [] (.done))))) Kr ?_))))
  refine qG (k:=0) J J J J υ'52 J ζ'50 J ?_
  refine qP (j:=0) J J J J α'50 Tk Az (by rfl) ?_
  have sp_2:=Rv.more_spec k
  refine qB J J J J J J κ'79 (sp_2) Ts ?_
  rintro ⟨⟩ -
  try simp only [Ca,Na]
  refine qV (qS (qQ ?_))
  refine qF J (fun hg=>by exfalso;unfold relK at hg;omega) (fun hg=>?_)
  refine qH (qQ (kM J (.q 0 (.q 1 (.q 2 (.q 3 (.q 4 ((.l 5 [] (.done)))))))) Kr ?_))
  refine qK J J J J (qZ J J J J (qG (k:=0) J J J J υ'104 J ζ'98 J ?_))
  refine qP (j:=0) J J J J α'98 Tk Az (by rfl) ?_
  refine kC J J J J α'52 ζ'52 Tk 0 (us:=[_,_,_]) Az J J ?_
  have sp_3:=Fe.rnext_spec pa pc cb x.ck hx.ck Om pl (hpl) k ((t:Nat):Int) ((o:Nat):Int)
  refine qB J J J J J J κ'88 (sp_3) Ts ?_
  rintro ⟨⟩ -
  try simp only [Ca,Na]
  refine qV (qS (qW [] (e':=[]) J ?_))
  refine sZ ?_
  have hF:(vnF x k ((t:Nat):Int) ((o:Nat):Int))=⟨nxF x.ck k ((t:Nat):Int) ((o:Nat):Int),(upd x.th ((t:Nat):Int) (some (mgF (x.lk ((o:Nat):Int)) l))),x.lk,x.vo,x.rd⟩:=(by rw [vn5 hth k5])
  refine optR_someF (b:=tb) (t:=(mgF (x.lk ((o:Nat):Int)) l)) Td ?_
  refine sJ (res:=optR) (V:=VT) (Y:=tabF x.ck.th.toNat x.th) (S:=[]) t (some ⟨tb,0,none⟩) (some (mgF (x.lk ((o:Nat):Int)) l)) Ts (by simp) (by first | omega | (simp;omega)) (by rw [tab_len];omega) ?_
  rw [set_sameL hta,tab_set]
  refine rv_fold (b:=b) (vnF x k ((t:Nat):Int) ((o:Nat):Int)) (pa:=pa) (pc:=pc) (cb:=cb) (Ta:=Ta) (Tc:=Tc) (La:=La) (Lc:=Lc) (Oa:=Oa) (Oc:=Oc) (Ra:=Ra) (Rc:=Rc) (VT:=VT) (VL:=VL) (VO:=VO) (VR:=VR) (YR:=YR) Ts (by first | rfl | simp) (by first | rfl | simp) (by first | rfl | simp) (by first | rfl | simp) (by rw [hF]) (by rw [hF,hrest.2.1]) (by rw [hF,hrest.2.2.2.2]) (by rw [hF,hrest.2.2.2.1]) (by rw [hF,hrest.2.1];simpa using hVT) (by rw [hF,hrest.2.2.2.2];simpa using hVL) (by rw [hF,hrest.2.2.2.1];simpa using hVO) (by simpa using hVR) (by rw [hF];exact relK_keep hK hx.ck hc Om) ?_
  refine ret0 J (()) (by first | rfl | (first | rfl | (congr 1;done) | (congr 1 <;> first | rfl | omega | (simp;done) | (simp;omega)))) (by trivial) ?_
  exact Tf
 refine qL (qC (.q 0 (.q 1 (.done))) Kr ?_)
 refine qD J J J J J (cZ _ _ _ _) ?_
 refine qR J J J J (qS (qW [0,3,4,19,32] (e':=[(0,_),(3,_),(4,_),(19,_),(32,_)]) J ?_))
 refine qQ ?_
 refine qF J (fun k6=>?_) (fun k6=>?_)
 ·
  have hlt:l.getD t 0 < maxC:=by
    have h9:=hv.2 (by unfold relK;omega)
    rw [thF_eq hth,Int.toNat_natCast] at h9;exact h9
  have hto:(tabF x.ck.lk.toNat x.lk)[o]?=some (x.lk ((o:Nat):Int)):=tab_get Om
  refine rQ (res:=optR) (V:=VL) (Y:=tabF x.ck.lk.toNat x.lk) (S:=[]) o Tk (by simp) hto fun ka hka=>?_
  refine kM J (.q 0 (.q 1 (.q 2 (.q 3 (.q 4 (.q 5 (.q 6 ((.l 7 [3,5] (.q 8 ((.l 9 [] (.done))))))))))))) Kr ?_
  refine qK J J J J (qZ J J J J (qG (k:=2) J J J J υ'104 J ζ'101 J ?_))
  refine qP (j:=2) J J J J α'101 Tk Az (by rfl) ?_
  refine qG (k:=2) J J J J υ'52 J ζ'3 J ?_
  refine qP (j:=2) J J J J α'3 Tk Az (by rfl) ?_
  refine qK J J J J ?_
  have sp_4:=Rv.copy_spec tb l
  refine qB J J J J J J κ'82 (sp_4) Ts ?_
  rintro qb -
  try simp only [Ca,Na]
  refine qM (q:=2) J J J α'101 Tk Az (by rfl) ?_
  refine qM (q:=2) J J J α'3 Tk Az (by rfl) ?_
  refine qV (cK (sz:=0) (k:=o) (enc:=encA) (xs:=VL) J J J J J υ'101 ζ'105 hka (by first | rfl | omega) Om Tk ?_)
  intro ib42 io42 ha42 hl42 hc42
  refine sC (j:=0) (k:=o) (q:=(some ⟨qb,0,none⟩)) (enc:=encA) (off:=io42) J J J J ζ'105 (us:=[_]) J J J ha42 encA_len hka Tk (by first | rfl | exact (Ad _).symm | omega) (by first | decide | exact Nat.le_of_ble_eq_true J) (by rfl) ?_
  refine qV (qS (optR_someF (b:=qb) (t:=l) Td ?_))
  refine sJ (res:=optR) (V:=VL) (Y:=tabF x.ck.lk.toNat x.lk) (S:=[]) o (some ⟨qb,0,none⟩) (some l) Ts (by simp) Om (by rw [tab_len];omega) ?_
  rw [tab_set]
  refine qW [0,3,4] (e':=[(0,_),(3,_),(4,_)]) J ?_
  refine kG (qQ (qL (qL (qC (.q 0 (.q 1 ((.l 2 [] (.done))))) Kr ?_))))
  refine qG (k:=0) J J J J υ'52 J ζ'50 J ?_
  refine qP (j:=0) J J J J α'50 Tk Az (by rfl) ?_
  have sp_5:=Rv.more_spec k
  refine qB J J J J J J κ'79 (sp_5) Ts ?_
  rintro ⟨⟩ -
  try simp only [Ca,Na]
  refine qV (qS (qQ ?_))
  refine qF J (fun hg=>?_) (fun hg=>by exfalso;exact hg (by unfold relK;omega))
  refine qC (.q 0 (.q 1 (.q 2 ((.l 3 [] (.done)))))) Kr ?_
  refine qK J J J J (qG (k:=1) J J J J υ'52 J ζ'3 J ?_)
  refine qP (j:=1) J J J J α'3 Tk Az (by rfl) ?_
  have sp_6:=Rv.inc_spec tb l t Om (hlt)
  refine qB J J J J J J κ'33 (sp_6) Ts ?_
  rintro ⟨⟩ -
  try simp only [Ca,Na]
  refine qV (qS (qW [0,3] (e':=[(0,_),(3,_)]) J ?_))
  refine qQ (kM J (.q 0 (.q 1 (.q 2 (.q 3 (.q 4 ((.l 5 [] (.done)))))))) Kr ?_)
  refine qK J J J J (qZ J J J J (qG (k:=0) J J J J υ'104 J ζ'98 J ?_))
  refine qP (j:=0) J J J J α'98 Tk Az (by rfl) ?_
  refine kC J J J J α'52 ζ'52 Tk 0 (us:=[_,_,_]) Az J J ?_
  have sp_7:=Fe.rnext_spec pa pc cb x.ck hx.ck Om pl (hpl) k ((t:Nat):Int) ((o:Nat):Int)
  refine qB J J J J J J κ'88 (sp_7) Ts ?_
  rintro ⟨⟩ -
  try simp only [Ca,Na]
  refine qV (qS (qW [] (e':=[]) J ?_))
  refine sZ ?_
  have hF:(vnF x k ((t:Nat):Int) ((o:Nat):Int))=⟨nxF x.ck k ((t:Nat):Int) ((o:Nat):Int),(upd x.th ((t:Nat):Int) (some (icL l t))),(upd x.lk ((o:Nat):Int) (some l)),x.vo,x.rd⟩:=(by rw [vn6 hth k6];(try simp only [Int.toNat_natCast]))
  refine optR_someF (b:=tb) (t:=(icL l t)) Td ?_
  refine sJ (res:=optR) (V:=VT) (Y:=tabF x.ck.th.toNat x.th) (S:=[]) t (some ⟨tb,0,none⟩) (some (icL l t)) Ts (by simp) (by first | omega | (simp;omega)) (by rw [tab_len];omega) ?_
  rw [set_sameL hta,tab_set]
  refine rv_fold (b:=b) (vnF x k ((t:Nat):Int) ((o:Nat):Int)) (pa:=pa) (pc:=pc) (cb:=cb) (Ta:=Ta) (Tc:=Tc) (La:=La) (Lc:=Lc) (Oa:=Oa) (Oc:=Oc) (Ra:=Ra) (Rc:=Rc) (VT:=VT) (VL:=(VL.set o (some ⟨qb,0,none⟩))) (VO:=VO) (VR:=VR) (YR:=YR) Ts (by first | rfl | simp) (by first | rfl | simp) (by first | rfl | simp) (by first | rfl | simp) (by rw [hF]) (by rw [hF,hrest.2.1]) (by rw [hF,hrest.2.2.2.2]) (by rw [hF,hrest.2.2.2.1]) (by rw [hF,hrest.2.1];simpa using hVT) (by rw [hF,hrest.2.2.2.2];simpa using hVL) (by rw [hF,hrest.2.2.2.1];simpa using hVO) (by simpa using hVR) (by rw [hF];exact relK_keep hK hx.ck hc Om) ?_
  refine ret0 J (()) (by first | rfl | (first | rfl | (congr 1;done) | (congr 1 <;> first | rfl | omega | (simp;done) | (simp;omega)))) (by trivial) ?_
  exact Tf
 refine qL (qC (.q 0 (.q 1 (.done))) Kr ?_)
 refine qD J J J J J (cZ _ _ _ _) ?_
 refine qR J J J J (qS (qQ ?_))
 refine qF J (fun k3=>?_) (fun k3=>?_)
 ·
  have hor:0≤(o:Int)∧okK x.ck k ((t:Nat):Int) ((o:Nat):Int):=by
    rcases hc with ⟨-,q_,-⟩ | ⟨-,q_⟩
    · omega
    · exact q_
  unfold okK at hor
  have hto:(tabF x.ck.vo.toNat x.vo)[o]?=some (x.vo ((o:Nat):Int)):=tab_get Om
  refine rQ (res:=optR) (V:=VO) (Y:=tabF x.ck.vo.toNat x.vo) (S:=[]) o Tk (by simp) hto fun ka hka=>?_
  refine kM J (.q 0 (.q 1 (.q 2 (.q 3 (.q 4 (.q 5 (.q 6 (.q 7 (.q 8 ((.l 9 [] (.done)))))))))))) Kr ?_
  refine qK J J J J (qK J J J J (qZ J J J J (qG (k:=3) J J J J υ'104 J ζ'101 J ?_)))
  refine qP (j:=3) J J J J α'101 Tk Az (by rfl) ?_
  refine qG (k:=2) J J J J υ'52 J ζ'3 J ?_
  refine qP (j:=2) J J J J α'3 Tk Az (by rfl) ?_
  refine cK (sz:=0) (k:=o) (enc:=encA) (xs:=VO) J J J J J υ'101 ζ'105 hka (by first | rfl | omega) Om Tk ?_
  intro ib52 io52 ha52 hl52 hc52
  refine cQ (v:=(.pointer ka)) (j:=0) (k':=o) (enc:=encA) (off:=io52) J J J J α'105 ha52 encA_len hka Tk (by first | rfl | exact (Ad _).symm | omega) (by rfl) ?_
  have sp_8:=joined_spec tb l ka (x.vo ((o:Nat):Int))
  refine qB J J J J J J κ'81 (sp_8) Ts ?_
  rintro ⟨⟩ -
  try simp only [Ca,Na]
  refine qV (qS (rX (res:=optR) (V:=VO) (Y:=tabF x.ck.vo.toNat x.vo) (S:=[]) o Ts (by simp) hka hto ?_))
  refine qW [0,3,4] (e':=[(0,_),(3,_),(4,_)]) J ?_
  refine kG (qQ (qL (qL (qC (.q 0 (.q 1 ((.l 2 [] (.done))))) Kr ?_))))
  refine qG (k:=0) J J J J υ'52 J ζ'50 J ?_
  refine qP (j:=0) J J J J α'50 Tk Az (by rfl) ?_
  have sp_9:=Rv.more_spec k
  refine qB J J J J J J κ'79 (sp_9) Ts ?_
  rintro ⟨⟩ -
  try simp only [Ca,Na]
  refine qV (qS (qQ ?_))
  refine qF J (fun hg=>by exfalso;unfold relK at hg;omega) (fun hg=>?_)
  refine qH (qQ (kM J (.q 0 (.q 1 (.q 2 (.q 3 (.q 4 ((.l 5 [] (.done)))))))) Kr ?_))
  refine qK J J J J (qZ J J J J (qG (k:=0) J J J J υ'104 J ζ'98 J ?_))
  refine qP (j:=0) J J J J α'98 Tk Az (by rfl) ?_
  refine kC J J J J α'52 ζ'52 Tk 0 (us:=[_,_,_]) Az J J ?_
  have sp_10:=Fe.rnext_spec pa pc cb x.ck hx.ck Om pl (hpl) k ((t:Nat):Int) ((o:Nat):Int)
  refine qB J J J J J J κ'88 (sp_10) Ts ?_
  rintro ⟨⟩ -
  try simp only [Ca,Na]
  refine qV (qS (qW [] (e':=[]) J ?_))
  refine sZ ?_
  have hF:(vnF x k ((t:Nat):Int) ((o:Nat):Int))=⟨nxF x.ck k ((t:Nat):Int) ((o:Nat):Int),(upd x.th ((t:Nat):Int) (some (mgF (x.vo ((o:Nat):Int)) l))),x.lk,x.vo,x.rd⟩:=(by rw [vn3 hth k3])
  refine optR_someF (b:=tb) (t:=(mgF (x.vo ((o:Nat):Int)) l)) Td ?_
  refine sJ (res:=optR) (V:=VT) (Y:=tabF x.ck.th.toNat x.th) (S:=[]) t (some ⟨tb,0,none⟩) (some (mgF (x.vo ((o:Nat):Int)) l)) Ts (by simp) (by first | omega | (simp;omega)) (by rw [tab_len];omega) ?_
  rw [set_sameL hta,tab_set]
  refine rv_fold (b:=b) (vnF x k ((t:Nat):Int) ((o:Nat):Int)) (pa:=pa) (pc:=pc) (cb:=cb) (Ta:=Ta) (Tc:=Tc) (La:=La) (Lc:=Lc) (Oa:=Oa) (Oc:=Oc) (Ra:=Ra) (Rc:=Rc) (VT:=VT) (VL:=VL) (VO:=VO) (VR:=VR) (YR:=YR) Ts (by first | rfl | simp) (by first | rfl | simp) (by first | rfl | simp) (by first | rfl | simp) (by rw [hF]) (by rw [hF,hrest.2.1]) (by rw [hF,hrest.2.2.2.2]) (by rw [hF,hrest.2.2.2.1]) (by rw [hF,hrest.2.1];simpa using hVT) (by rw [hF,hrest.2.2.2.2];simpa using hVL) (by rw [hF,hrest.2.2.2.1];simpa using hVO) (by simpa using hVR) (by rw [hF];exact relK_keep hK hx.ck hc Om) ?_
  refine ret0 J (()) (by first | rfl | (first | rfl | (congr 1;done) | (congr 1 <;> first | rfl | omega | (simp;done) | (simp;omega)))) (by trivial) ?_
  exact Tf
 refine qL (qC (.q 0 (.q 1 (.done))) Kr ?_)
 refine qD J J J J J (cZ _ _ _ _) ?_
 refine qR J J J J (qS (qW [0,3,4,19,55] (e':=[(0,_),(3,_),(4,_),(19,_),(55,_)]) J ?_))
 refine qQ ?_
 refine qF J (fun k4=>?_) (fun k4=>?_)
 ·
  have hor:0≤(o:Int)∧okK x.ck k ((t:Nat):Int) ((o:Nat):Int):=by
    rcases hc with ⟨-,q_,-⟩ | ⟨-,q_⟩
    · omega
    · exact q_
  unfold okK at hor
  have hlt:l.getD t 0 < maxC:=by
    have h9:=hv.2 (by unfold relK;omega)
    rw [thF_eq hth,Int.toNat_natCast] at h9;exact h9
  have hto:(tabF x.ck.vo.toNat x.vo)[o]?=some (x.vo ((o:Nat):Int)):=tab_get Om
  refine rQ (res:=optR) (V:=VO) (Y:=tabF x.ck.vo.toNat x.vo) (S:=[]) o Tk (by simp) hto fun ka hka=>?_
  refine kM J (.q 0 (.q 1 (.q 2 (.q 3 (.q 4 (.q 5 (.q 6 (.q 8 (.q 9 (.q 10 (.q 11 (.q 12 (.q 13 (.q 14 (.q 15 ((.l 7 [3,5,11,13,15] ((.l 16 [3,5] (.q 17 ((.l 18 [] (.done))))))))))))))))))))))) Kr ?_
  refine qK J J J J (qZ J J J J (qG (k:=3) J J J J υ'104 J ζ'101 J ?_))
  refine qP (j:=3) J J J J α'101 Tk Az (by rfl) ?_
  refine qG (k:=2) J J J J υ'52 J ζ'3 J ?_
  refine qP (j:=2) J J J J α'3 Tk Az (by rfl) ?_
  refine qK J J J J (qK J J J J (qZ J J J J (qG (k:=3) J J J J υ'104 J ζ'101 J ?_)))
  refine qP (j:=3) J J J J α'101 Tk Az (by rfl) ?_
  refine qG (k:=2) J J J J υ'52 J ζ'3 J ?_
  refine qP (j:=2) J J J J α'3 Tk Az (by rfl) ?_
  refine cK (sz:=0) (k:=o) (enc:=encA) (xs:=VO) J J J J J υ'101 ζ'105 hka (by first | rfl | omega) Om Tk ?_
  intro ib71 io71 ha71 hl71 hc71
  refine cQ (v:=(.pointer ka)) (j:=0) (k':=o) (enc:=encA) (off:=io71) J J J J α'105 ha71 encA_len hka Tk (by first | rfl | exact (Ad _).symm | omega) (by rfl) ?_
  have sp_11:=Rv.copy_spec tb l
  refine qB J J J J J J κ'82 (sp_11) Ts ?_
  rintro qb -
  try simp only [Ca,Na]
  refine qM (q:=3) J J J α'101 Tk Az (by rfl) ?_
  refine qM (q:=2) J J J α'3 Tk Az (by rfl) ?_
  refine qM (q:=3) J J J α'101 Tk Az (by rfl) ?_
  refine qM (q:=2) J J J α'3 Tk Az (by rfl) ?_
  refine ag_load_O (v:=(.pointer ka)) (j:=0) (k':=o) (enc:=encA) (off:=io71) J J J α'105 ha71 encA_len hka Tk (by first | rfl | exact (Ad _).symm | omega) (by rfl) ?_
  refine qV ?_
  have sp_12:=joined_spec qb l ka (x.vo ((o:Nat):Int))
  refine qB J J J J J J κ'81 (sp_12) Ts ?_
  rintro ⟨⟩ -
  try simp only [Ca,Na]
  refine qM (q:=3) J J J α'101 Tk Az (by rfl) ?_
  refine qM (q:=2) J J J α'3 Tk Az (by rfl) ?_
  refine qV (cK (sz:=0) (k:=o) (enc:=encA) (xs:=VO) J J J J J υ'101 ζ'105 hka (by first | rfl | omega) Om Tk ?_)
  intro ib74 io74 ha74 hl74 hc74
  refine sC (j:=0) (k:=o) (q:=(some ⟨qb,0,none⟩)) (enc:=encA) (off:=io74) J J J J ζ'105 (us:=[_]) J J J ha74 encA_len hka Tk (by first | rfl | exact (Ad _).symm | omega) (by first | decide | exact Nat.le_of_ble_eq_true J) (by rfl) ?_
  refine qV (qS (optR_someF (b:=qb) (t:=(mgF (x.vo ((o:Nat):Int)) l)) Td ?_))
  refine sJ (res:=optR) (V:=VO) (Y:=tabF x.ck.vo.toNat x.vo) (S:=[]) o (some ⟨qb,0,none⟩) (some (mgF (x.vo ((o:Nat):Int)) l)) Ts (by simp) Om (by rw [tab_len];omega) ?_
  rw [tab_set]
  refine qW [0,3,4] (e':=[(0,_),(3,_),(4,_)]) J ?_
  refine kG (qQ (qL (qL (qC (.q 0 (.q 1 ((.l 2 [] (.done))))) Kr ?_))))
  refine qG (k:=0) J J J J υ'52 J ζ'50 J ?_
  refine qP (j:=0) J J J J α'50 Tk Az (by rfl) ?_
  have sp_13:=Rv.more_spec k
  refine qB J J J J J J κ'79 (sp_13) Ts ?_
  rintro ⟨⟩ -
  try simp only [Ca,Na]
  refine qV (qS (qQ ?_))
  refine qF J (fun hg=>?_) (fun hg=>by exfalso;exact hg (by unfold relK;omega))
  refine qC (.q 0 (.q 1 (.q 2 ((.l 3 [] (.done)))))) Kr ?_
  refine qK J J J J (qG (k:=1) J J J J υ'52 J ζ'3 J ?_)
  refine qP (j:=1) J J J J α'3 Tk Az (by rfl) ?_
  have sp_14:=Rv.inc_spec tb l t Om (hlt)
  refine qB J J J J J J κ'33 (sp_14) Ts ?_
  rintro ⟨⟩ -
  try simp only [Ca,Na]
  refine qV (qS (qW [0,3] (e':=[(0,_),(3,_)]) J ?_))
  refine qQ (kM J (.q 0 (.q 1 (.q 2 (.q 3 (.q 4 ((.l 5 [] (.done)))))))) Kr ?_)
  refine qK J J J J (qZ J J J J (qG (k:=0) J J J J υ'104 J ζ'98 J ?_))
  refine qP (j:=0) J J J J α'98 Tk Az (by rfl) ?_
  refine kC J J J J α'52 ζ'52 Tk 0 (us:=[_,_,_]) Az J J ?_
  have sp_15:=Fe.rnext_spec pa pc cb x.ck hx.ck Om pl (hpl) k ((t:Nat):Int) ((o:Nat):Int)
  refine qB J J J J J J κ'88 (sp_15) Ts ?_
  rintro ⟨⟩ -
  try simp only [Ca,Na]
  refine qV (qS (qW [] (e':=[]) J ?_))
  refine sZ ?_
  have hF:(vnF x k ((t:Nat):Int) ((o:Nat):Int))=⟨nxF x.ck k ((t:Nat):Int) ((o:Nat):Int),(upd x.th ((t:Nat):Int) (some (icL l t))),x.lk,(upd x.vo ((o:Nat):Int) (some (mgF (x.vo ((o:Nat):Int)) l))),x.rd⟩:=(by rw [vn4 hth k4];(try simp only [Int.toNat_natCast]))
  refine optR_someF (b:=tb) (t:=(icL l t)) Td ?_
  refine sJ (res:=optR) (V:=VT) (Y:=tabF x.ck.th.toNat x.th) (S:=[]) t (some ⟨tb,0,none⟩) (some (icL l t)) Ts (by simp) (by first | omega | (simp;omega)) (by rw [tab_len];omega) ?_
  rw [set_sameL hta,tab_set]
  refine rv_fold (b:=b) (vnF x k ((t:Nat):Int) ((o:Nat):Int)) (pa:=pa) (pc:=pc) (cb:=cb) (Ta:=Ta) (Tc:=Tc) (La:=La) (Lc:=Lc) (Oa:=Oa) (Oc:=Oc) (Ra:=Ra) (Rc:=Rc) (VT:=VT) (VL:=VL) (VO:=(VO.set o (some ⟨qb,0,none⟩))) (VR:=VR) (YR:=YR) Ts (by first | rfl | simp) (by first | rfl | simp) (by first | rfl | simp) (by first | rfl | simp) (by rw [hF]) (by rw [hF,hrest.2.1]) (by rw [hF,hrest.2.2.2.2]) (by rw [hF,hrest.2.2.2.1]) (by rw [hF,hrest.2.1];simpa using hVT) (by rw [hF,hrest.2.2.2.2];simpa using hVL) (by rw [hF,hrest.2.2.2.1];simpa using hVO) (by simpa using hVR) (by rw [hF];exact relK_keep hK hx.ck hc Om) ?_
  refine ret0 J (()) (by first | rfl | (first | rfl | (congr 1;done) | (congr 1 <;> first | rfl | omega | (simp;done) | (simp;omega)))) (by trivial) ?_
  exact Tf
 refine qL (qC (.q 0 (.q 1 (.done))) Kr ?_)
 refine qD J J J J J (cZ _ _ _ _) ?_
 refine qR J J J J (qS (qQ ?_))
 refine qF J (fun k7=>?_) (fun k7=>?_)
 ·
  refine qL ?_
  have hlt:l.getD t 0 < maxC:=by
    have h9:=hv.2 (by unfold relK;omega)
    rw [thF_eq hth,Int.toNat_natCast] at h9;exact h9
  obtain ⟨p0,p1,p2⟩:=o7 k7
  have hot:o≠t:=by intro e;rw [e] at p2;exact can_th hc p2
  refine qC (.q 0 ((.l 1 [] (.q 2 (.done))))) Kr ?_
  refine qK J J J J ?_
  have sp_16:=Rv.copy_spec tb l
  refine qB J J J J J J κ'82 (sp_16) Ts ?_
  rintro qb -
  try simp only [Ca,Na]
  refine qV (qR J J J J (qS (qW [0,3,4,5] (e':=[(0,_),(3,_),(4,_),(5,_)]) J ?_)))
  refine qQ (qL (qC (.q 0 (.q 1 (.q 2 ((.l 3 [] (.done)))))) Kr ?_))
  refine qK J J J J (qG (k:=2) J J J J υ'52 J ζ'3 J ?_)
  refine qP (j:=2) J J J J α'3 Tk Az (by rfl) ?_
  have sp_17:=Rv.set_spec qb l o 1 Om (by decide) (by decide)
  refine qB J J J J J J Tryz.call83 (sp_17) Ts ?_
  rintro ⟨⟩ -
  try simp only [Ca,Na]
  refine qV (qS (qW [0,3,4,5] (e':=[(0,_),(3,_),(4,_),(5,_)]) J ?_))
  refine qQ ?_
  have hto:(tabF x.ck.th.toNat x.th)[o]?=some (x.th ((o:Nat):Int)):=tab_get Om
  refine rQ (res:=optR) (V:=VT) (Y:=tabF x.ck.th.toNat x.th) (S:=[t]) o Tk (by simp;omega) hto fun ka hka=>?_
  refine kM J (.q 0 (.q 1 (.q 2 (.q 3 (.q 4 (.q 5 (.q 6 (.q 7 ((.l 8 [] (.done))))))))))) Kr ?_
  refine qK J J J J (qZ J J J J (qG (k:=1) J J J J υ'104 J ζ'101 J ?_))
  refine qP (j:=1) J J J J α'101 Tk Az (by rfl) ?_
  refine qG (k:=2) J J J J υ'52 J ζ'3 J ?_
  refine qP (j:=2) J J J J α'3 Tk Az (by rfl) ?_
  refine qK J J J J (cK (sz:=0) (k:=o) (enc:=encA) (xs:=VT) J J J J J υ'101 ζ'105 hka (by first | rfl | omega) Om Tk ?_)
  intro ib90 io90 ha90 hl90 hc90
  refine sC (j:=0) (k:=o) (q:=(some ⟨qb,0,none⟩)) (enc:=encA) (off:=io90) J J J J ζ'105 (us:=[_]) J J J ha90 encA_len hka Tk (by first | rfl | exact (Ad _).symm | omega) (by first | decide | exact Nat.le_of_ble_eq_true J) (by rfl) ?_
  refine qV (qS (optR_someF (b:=qb) (t:=(stL l o 1)) Td ?_))
  refine sJ (res:=optR) (V:=VT) (Y:=tabF x.ck.th.toNat x.th) (S:=[t]) o (some ⟨qb,0,none⟩) (some (stL l o 1)) Ts (by simp;omega) Om (by rw [tab_len];omega) ?_
  rw [tab_set]
  have hta2:(VT.set o (some ⟨qb,0,none⟩))[t]?=some (some ⟨tb,0,none⟩):=by rw [List.getElem?_set_ne hot];exact hta
  refine qW [0,3,4] (e':=[(0,_),(3,_),(4,_)]) J ?_
  refine kG (qQ (qL (qL (qC (.q 0 (.q 1 ((.l 2 [] (.done))))) Kr ?_))))
  refine qG (k:=0) J J J J υ'52 J ζ'50 J ?_
  refine qP (j:=0) J J J J α'50 Tk Az (by rfl) ?_
  have sp_18:=Rv.more_spec k
  refine qB J J J J J J κ'79 (sp_18) Ts ?_
  rintro ⟨⟩ -
  try simp only [Ca,Na]
  refine qV (qS (qQ ?_))
  refine qF J (fun hg=>?_) (fun hg=>by exfalso;exact hg (by unfold relK;omega))
  refine qC (.q 0 (.q 1 (.q 2 ((.l 3 [] (.done)))))) Kr ?_
  refine qK J J J J (qG (k:=1) J J J J υ'52 J ζ'3 J ?_)
  refine qP (j:=1) J J J J α'3 Tk Az (by rfl) ?_
  have sp_19:=Rv.inc_spec tb l t Om (hlt)
  refine qB J J J J J J κ'33 (sp_19) Ts ?_
  rintro ⟨⟩ -
  try simp only [Ca,Na]
  refine qV (qS (qW [0,3] (e':=[(0,_),(3,_)]) J ?_))
  refine qQ (kM J (.q 0 (.q 1 (.q 2 (.q 3 (.q 4 ((.l 5 [] (.done)))))))) Kr ?_)
  refine qK J J J J (qZ J J J J (qG (k:=0) J J J J υ'104 J ζ'98 J ?_))
  refine qP (j:=0) J J J J α'98 Tk Az (by rfl) ?_
  refine kC J J J J α'52 ζ'52 Tk 0 (us:=[_,_,_]) Az J J ?_
  have sp_20:=Fe.rnext_spec pa pc cb x.ck hx.ck Om pl (hpl) k ((t:Nat):Int) ((o:Nat):Int)
  refine qB J J J J J J κ'88 (sp_20) Ts ?_
  rintro ⟨⟩ -
  try simp only [Ca,Na]
  refine qV (qS (qW [] (e':=[]) J ?_))
  refine sZ ?_
  have hF:(vnF x k ((t:Nat):Int) ((o:Nat):Int))=⟨nxF x.ck k ((t:Nat):Int) ((o:Nat):Int),(upd (upd x.th ((o:Nat):Int) (some (stL l o 1))) ((t:Nat):Int) (some (icL l t))),x.lk,x.vo,x.rd⟩:=(by rw [vn7 hth k7];(try simp only [Int.toNat_natCast]))
  refine optR_someF (b:=tb) (t:=(icL l t)) Td ?_
  refine sJ (res:=optR) (V:=(VT.set o (some ⟨qb,0,none⟩))) (Y:=tabF x.ck.th.toNat (upd x.th ((o:Nat):Int) (some (stL l o 1)))) (S:=[]) t (some ⟨tb,0,none⟩) (some (icL l t)) Ts (by simp) (by first | omega | (simp;omega)) (by rw [tab_len];omega) ?_
  rw [set_sameL hta2,tab_set]
  refine rv_fold (b:=b) (vnF x k ((t:Nat):Int) ((o:Nat):Int)) (pa:=pa) (pc:=pc) (cb:=cb) (Ta:=Ta) (Tc:=Tc) (La:=La) (Lc:=Lc) (Oa:=Oa) (Oc:=Oc) (Ra:=Ra) (Rc:=Rc) (VT:=(VT.set o (some ⟨qb,0,none⟩))) (VL:=VL) (VO:=VO) (VR:=VR) (YR:=YR) Ts (by first | rfl | simp) (by first | rfl | simp) (by first | rfl | simp) (by first | rfl | simp) (by rw [hF]) (by rw [hF,hrest.2.1]) (by rw [hF,hrest.2.2.2.2]) (by rw [hF,hrest.2.2.2.1]) (by rw [hF,hrest.2.1];simpa using hVT) (by rw [hF,hrest.2.2.2.2];simpa using hVL) (by rw [hF,hrest.2.2.2.1];simpa using hVO) (by simpa using hVR) (by rw [hF];exact relK_keep hK hx.ck hc Om) ?_
  refine ret0 J (()) (by first | rfl | (first | rfl | (congr 1;done) | (congr 1 <;> first | rfl | omega | (simp;done) | (simp;omega)))) (by trivial) ?_
  exact Tf
 refine qL (qC (.q 0 (.q 1 (.done))) Kr ?_)
 refine qD J J J J J (cZ _ _ _ _) ?_
 refine qR J J J J (qS (qW [0,3,4,19,91] (e':=[(0,_),(3,_),(4,_),(19,_),(91,_)]) J ?_))
 refine qQ ?_
 refine qF J (fun k8=>?_) (fun k8=>?_)
 ·
  have hor:0≤(o:Int)∧okK x.ck k ((t:Nat):Int) ((o:Nat):Int):=by
    rcases hc with ⟨-,q_,-⟩ | ⟨-,q_⟩
    · omega
    · exact q_
  unfold okK at hor
  have hot:o≠t:=by intro e;rw [e] at hc;exact join_ne hc k8
  have hto:(tabF x.ck.th.toNat x.th)[o]?=some (x.th ((o:Nat):Int)):=tab_get Om
  refine rQ (res:=optR) (V:=VT) (Y:=tabF x.ck.th.toNat x.th) (S:=[t]) o Tk (by simp;omega) hto fun ka hka=>?_
  refine kM J (.q 0 (.q 1 (.q 2 (.q 3 (.q 4 (.q 5 (.q 6 (.q 7 (.q 8 ((.l 9 [] (.done)))))))))))) Kr ?_
  refine qK J J J J (qK J J J J (qZ J J J J (qG (k:=1) J J J J υ'104 J ζ'101 J ?_)))
  refine qP (j:=1) J J J J α'101 Tk Az (by rfl) ?_
  refine qG (k:=2) J J J J υ'52 J ζ'3 J ?_
  refine qP (j:=2) J J J J α'3 Tk Az (by rfl) ?_
  refine cK (sz:=0) (k:=o) (enc:=encA) (xs:=VT) J J J J J υ'101 ζ'105 hka (by first | rfl | omega) Om Tk ?_
  intro ib100 io100 ha100 hl100 hc100
  refine cQ (v:=(.pointer ka)) (j:=0) (k':=o) (enc:=encA) (off:=io100) J J J J α'105 ha100 encA_len hka Tk (by first | rfl | exact (Ad _).symm | omega) (by rfl) ?_
  have sp_21:=joined_spec tb l ka (x.th ((o:Nat):Int))
  refine qB J J J J J J κ'81 (sp_21) Ts ?_
  rintro ⟨⟩ -
  try simp only [Ca,Na]
  refine qV (qS (rX (res:=optR) (V:=VT) (Y:=tabF x.ck.th.toNat x.th) (S:=[t]) o Ts (by simp;omega) hka hto ?_))
  refine qW [0,3,4] (e':=[(0,_),(3,_),(4,_)]) J ?_
  refine kG (qQ (qL (qL (qC (.q 0 (.q 1 ((.l 2 [] (.done))))) Kr ?_))))
  refine qG (k:=0) J J J J υ'52 J ζ'50 J ?_
  refine qP (j:=0) J J J J α'50 Tk Az (by rfl) ?_
  have sp_22:=Rv.more_spec k
  refine qB J J J J J J κ'79 (sp_22) Ts ?_
  rintro ⟨⟩ -
  try simp only [Ca,Na]
  refine qV (qS (qQ ?_))
  refine qF J (fun hg=>by exfalso;unfold relK at hg;omega) (fun hg=>?_)
  refine qH (qQ (kM J (.q 0 (.q 1 (.q 2 (.q 3 (.q 4 ((.l 5 [] (.done)))))))) Kr ?_))
  refine qK J J J J (qZ J J J J (qG (k:=0) J J J J υ'104 J ζ'98 J ?_))
  refine qP (j:=0) J J J J α'98 Tk Az (by rfl) ?_
  refine kC J J J J α'52 ζ'52 Tk 0 (us:=[_,_,_]) Az J J ?_
  have sp_23:=Fe.rnext_spec pa pc cb x.ck hx.ck Om pl (hpl) k ((t:Nat):Int) ((o:Nat):Int)
  refine qB J J J J J J κ'88 (sp_23) Ts ?_
  rintro ⟨⟩ -
  try simp only [Ca,Na]
  refine qV (qS (qW [] (e':=[]) J ?_))
  refine sZ ?_
  have hF:(vnF x k ((t:Nat):Int) ((o:Nat):Int))=⟨nxF x.ck k ((t:Nat):Int) ((o:Nat):Int),(upd x.th ((t:Nat):Int) (some (mgF (x.th ((o:Nat):Int)) l))),x.lk,x.vo,x.rd⟩:=(by rw [vn8 hth k8])
  refine optR_someF (b:=tb) (t:=(mgF (x.th ((o:Nat):Int)) l)) Td ?_
  refine sJ (res:=optR) (V:=VT) (Y:=tabF x.ck.th.toNat x.th) (S:=[]) t (some ⟨tb,0,none⟩) (some (mgF (x.th ((o:Nat):Int)) l)) Ts (by simp) (by first | omega | (simp;omega)) (by rw [tab_len];omega) ?_
  rw [set_sameL hta,tab_set]
  refine rv_fold (b:=b) (vnF x k ((t:Nat):Int) ((o:Nat):Int)) (pa:=pa) (pc:=pc) (cb:=cb) (Ta:=Ta) (Tc:=Tc) (La:=La) (Lc:=Lc) (Oa:=Oa) (Oc:=Oc) (Ra:=Ra) (Rc:=Rc) (VT:=VT) (VL:=VL) (VO:=VO) (VR:=VR) (YR:=YR) Ts (by first | rfl | simp) (by first | rfl | simp) (by first | rfl | simp) (by first | rfl | simp) (by rw [hF]) (by rw [hF,hrest.2.1]) (by rw [hF,hrest.2.2.2.2]) (by rw [hF,hrest.2.2.2.1]) (by rw [hF,hrest.2.1];simpa using hVT) (by rw [hF,hrest.2.2.2.2];simpa using hVL) (by rw [hF,hrest.2.2.2.1];simpa using hVO) (by simpa using hVR) (by rw [hF];exact relK_keep hK hx.ck hc Om) ?_
  refine ret0 J (()) (by first | rfl | (first | rfl | (congr 1;done) | (congr 1 <;> first | rfl | omega | (simp;done) | (simp;omega)))) (by trivial) ?_
  exact Tf
 refine qL (qC (.q 0 (.q 1 (.done))) Kr ?_)
 refine qD J J J J J (cZ _ _ _ _) ?_
 refine qR J J J J (qS (qQ ?_))
 refine qF J (fun k9=>?_) (fun k9=>?_)
 ·
  refine qL ?_
  have hlt:l.getD t 0 < maxC:=by
    have h9:=hv.2 (by unfold relK;omega)
    rw [thF_eq hth,Int.toNat_natCast] at h9;exact h9
  obtain ⟨p0,p1,p2,p3⟩:=o9 k9
  refine kM J (.q 0 (.q 1 (.q 2 (.q 3 (.q 4 (.q 5 ((.alt (.l 6 [] (.q 7 (.q 8 (.q 9 ((.l 10 [] ((.l 11 [] (.q 12 (.done)))))))))) (.l 10 [3,5] ((.l 6 [] (.q 7 (.q 8 (.q 9 ((.l 11 [] (.q 12 (.done)))))))))))))))))) Kr ?_
  refine qK J J J J (qZ J J J J (qG (k:=0) J J J J υ'104 J ζ'98 J ?_))
  refine qP (j:=0) J J J J α'98 Tk Az (by rfl) ?_
  refine qG (k:=2) J J J J υ'52 J ζ'3 J ?_
  refine qP (j:=2) J J J J α'3 Tk Az (by rfl) ?_
  refine rV ?_ ?_
  ·
   have sp_24:=Fe.rround_spec pa pc cb x.ck ((o:Nat):Int)
   refine qB J J J J J J Tryz.call84 (sp_24) Ts ?_
   rintro ⟨⟩ -
   try simp only [Ca,Na]
   refine qV (qK J J J J (kX J J J J J (kF 113 J (v':=.agg #[.int .i64 ((opF x.ck ((o:Nat):Int)).1),.int .i64 ((opF x.ck ((o:Nat):Int)).2)]) (by rw [if_pos (show 0≤((o:Nat):Int)∧((o:Nat):Int) < (x.ck.B.length:Int) by omega)]) ?_)))
   refine kX J J J J J (cY J J J ω'149 (zs:=[.int .i64 0,.int .i64 0]) J ?_)
   intro b6
   refine qV (kR (j:=0) J J J J ζ'149 (us:=[_,_]) J J J Tk Az (by first | decide | (simp;done) | omega) ?_)
   simp only [setL,List.set]
   refine qV (qR J J J J (qS (qW [0,3,4,6] (e':=[(0,_),(3,_),(4,_),(6,_)]) J ?_)))
   refine qQ (s_krk (V:=VR) (Y:=YR) Tk fun hkr=>?_)
   refine qC (.q 0 (.q 1 (.q 2 (.q 3 (.q 4 (.q 5 ((.l 6 [] (.done))))))))) Kr ?_
   refine qK J J J J (qG (k:=2) J J J J υ'52 J ζ'3 J ?_)
   refine qP (j:=2) J J J J α'3 Tk Az (by rfl) ?_
   refine qG (k:=0) J J J J υ'149 J ζ'3 J ?_
   refine qP (j:=0) J J J J α'3 Tk Az (by rfl) ?_
   refine qK J J J J ?_
   have hrl:=hK.Rl
   rcases Classical.em (∃ (j:Nat) (q:KP),VR[j]?=some q∧q.1=((o:Nat):Int)∧q.2.1=(opF x.ck ((o:Nat):Int)).1) with hex | hno
   ·
    have sp_25:=keep_yes b Rc tb (.pointer (some ⟨cb,0,none⟩)) (.slice Ta VT.length Tc) (.slice La VL.length Lc) (.slice Oa VO.length Oc) Ra VR YR ((o:Nat):Int) ((opF x.ck ((o:Nat):Int)).1) l hVR Om hex
    refine qB J J J J J J κ'85 (sp_25) Ts ?_
    rintro ri ⟨yq,hyq,hyq1,hyq2⟩
    have hyg:YR.getD ri (0,0,[])=yq:=by rw [List.getD_eq_getElem?_getD,hyq];rfl
    rw [hyg]
    try simp only [Ca,Na]
    refine qV (qS (qW [0,3,4] (e':=[(0,_),(3,_),(4,_)]) J ?_))
    refine kG (qQ (qL (qL (qC (.q 0 (.q 1 ((.l 2 [] (.done))))) Kr ?_))))
    refine qG (k:=0) J J J J υ'52 J ζ'50 J ?_
    refine qP (j:=0) J J J J α'50 Tk Az (by rfl) ?_
    have sp_26:=Rv.more_spec k
    refine qB J J J J J J κ'79 (sp_26) Ts ?_
    rintro ⟨⟩ -
    try simp only [Ca,Na]
    refine qV (qS (qQ ?_))
    refine qF J (fun hg=>?_) (fun hg=>by exfalso;exact hg (by unfold relK;omega))
    refine qC (.q 0 (.q 1 (.q 2 ((.l 3 [] (.done)))))) Kr ?_
    refine qK J J J J (qG (k:=1) J J J J υ'52 J ζ'3 J ?_)
    refine qP (j:=1) J J J J α'3 Tk Az (by rfl) ?_
    have sp_27:=Rv.inc_spec tb l t Om (hlt)
    refine qB J J J J J J κ'33 (sp_27) Ts ?_
    rintro ⟨⟩ -
    try simp only [Ca,Na]
    refine qV (qS (qW [0,3] (e':=[(0,_),(3,_)]) J ?_))
    refine qQ (kM J (.q 0 (.q 1 (.q 2 (.q 3 (.q 4 ((.l 5 [] (.done)))))))) Kr ?_)
    refine qK J J J J (qZ J J J J (qG (k:=0) J J J J υ'104 J ζ'98 J ?_))
    refine qP (j:=0) J J J J α'98 Tk Az (by rfl) ?_
    refine kC J J J J α'52 ζ'52 Tk 0 (us:=[_,_,_]) Az J J ?_
    have sp_28:=Fe.rnext_spec pa pc cb x.ck hx.ck Om pl (hpl) k ((t:Nat):Int) ((o:Nat):Int)
    refine qB J J J J J J κ'88 (sp_28) Ts ?_
    rintro ⟨⟩ -
    try simp only [Ca,Na]
    refine qV (qS (qW [] (e':=[]) J ?_))
    refine sZ ?_
    have hF:(vnF x k ((t:Nat):Int) ((o:Nat):Int))=⟨nxF x.ck k ((t:Nat):Int) ((o:Nat):Int),(upd x.th ((t:Nat):Int) (some (icL l t))),x.lk,x.vo,(upd x.rd (((o:Nat):Int),(opF x.ck ((o:Nat):Int)).1) (some (mgF ((x.rd (((o:Nat):Int),(opF x.ck ((o:Nat):Int)).1)).map (·.1)) l,x.ck.pa.getD o 0)))⟩:=(by rw [vn9 hth k9];(try simp only [Int.toNat_natCast]))
    obtain ⟨hyc,-,hyr⟩:=hK.Rk yq (List.mem_of_getElem? hyq)
    have hyv:mgF (some l) yq.2.2=mgF ((x.rd (((o:Nat):Int),(opF x.ck ((o:Nat):Int)).1)).map (·.1)) l:=by
      have h9:=hK.Rc yq (List.mem_of_getElem? hyq) (by rw [hyq1,hyq2])
      rw [hyq1,hyq2] at h9 hyr
      obtain ⟨p,hp⟩:=Option.isSome_iff_exists.1 h9
      rw [hp,hyr p hp];exact jn_comm (hx.rdc _ _ hp) hlc
    rw [hyv]
    refine optR_someF (b:=tb) (t:=(icL l t)) Td ?_
    refine sJ (res:=optR) (V:=VT) (Y:=tabF x.ck.th.toNat x.th) (S:=[]) t (some ⟨tb,0,none⟩) (some (icL l t)) Ts (by simp) (by first | omega | (simp;omega)) (by rw [tab_len];omega) ?_
    rw [set_sameL hta,tab_set]
    refine rv_fold (b:=b) (vnF x k ((t:Nat):Int) ((o:Nat):Int)) (pa:=pa) (pc:=pc) (cb:=cb) (Ta:=Ta) (Tc:=Tc) (La:=La) (Lc:=Lc) (Oa:=Oa) (Oc:=Oc) (Ra:=Ra) (Rc:=Rc) (VT:=VT) (VL:=VL) (VO:=VO) (VR:=VR) (YR:=(YR.set ri (yq.1,yq.2.1,mgF ((x.rd (((o:Nat):Int),(opF x.ck ((o:Nat):Int)).1)).map (·.1)) l))) Ts (by first | rfl | simp) (by first | rfl | simp) (by first | rfl | simp) (by first | rfl | simp) (by rw [hF]) (by rw [hF,hrest.2.1]) (by rw [hF,hrest.2.2.2.2]) (by rw [hF,hrest.2.2.2.1]) (by rw [hF,hrest.2.1];simpa using hVT) (by rw [hF,hrest.2.2.2.2];simpa using hVL) (by rw [hF,hrest.2.2.2.1];simpa using hVO) (by simpa using hVR) (by rw [hF];exact arr_yes hx.ck hK k9 hc hyq hyq1 hyq2 (mg_cv hlc fun q_ h_=>map_fst_cv hx h_)) ?_
    refine ret0 J (()) (by first | rfl | (first | rfl | (congr 1;done) | (congr 1 <;> first | rfl | omega | (simp;done) | (simp;omega)))) (by trivial) ?_
    exact Tf
   have sp_29:=keep_no b Rc tb (.pointer (some ⟨cb,0,none⟩)) (.slice Ta VT.length Tc) (.slice La VL.length Lc) (.slice Oa VO.length Oc) Ra VR YR ((o:Nat):Int) ((opF x.ck ((o:Nat):Int)).1) l hVR Om hno
   refine qB J J J J J J κ'85 (sp_29) Ts ?_
   rintro ⟨qb,ra2,rc2⟩ -
   try simp only [Ca,Na]
   refine qV (qS (qW [0,3,4] (e':=[(0,_),(3,_),(4,_)]) J ?_))
   refine kG (qQ (qL (qL (qC (.q 0 (.q 1 ((.l 2 [] (.done))))) Kr ?_))))
   refine qG (k:=0) J J J J υ'52 J ζ'50 J ?_
   refine qP (j:=0) J J J J α'50 Tk Az (by rfl) ?_
   have sp_30:=Rv.more_spec k
   refine qB J J J J J J κ'79 (sp_30) Ts ?_
   rintro ⟨⟩ -
   try simp only [Ca,Na]
   refine qV (qS (qQ ?_))
   refine qF J (fun hg=>?_) (fun hg=>by exfalso;exact hg (by unfold relK;omega))
   refine qC (.q 0 (.q 1 (.q 2 ((.l 3 [] (.done)))))) Kr ?_
   refine qK J J J J (qG (k:=1) J J J J υ'52 J ζ'3 J ?_)
   refine qP (j:=1) J J J J α'3 Tk Az (by rfl) ?_
   have sp_31:=Rv.inc_spec tb l t Om (hlt)
   refine qB J J J J J J κ'33 (sp_31) Ts ?_
   rintro ⟨⟩ -
   try simp only [Ca,Na]
   refine qV (qS (qW [0,3] (e':=[(0,_),(3,_)]) J ?_))
   refine qQ (kM J (.q 0 (.q 1 (.q 2 (.q 3 (.q 4 ((.l 5 [] (.done)))))))) Kr ?_)
   refine qK J J J J (qZ J J J J (qG (k:=0) J J J J υ'104 J ζ'98 J ?_))
   refine qP (j:=0) J J J J α'98 Tk Az (by rfl) ?_
   refine kC J J J J α'52 ζ'52 Tk 0 (us:=[_,_,_]) Az J J ?_
   have sp_32:=Fe.rnext_spec pa pc cb x.ck hx.ck Om pl (hpl) k ((t:Nat):Int) ((o:Nat):Int)
   refine qB J J J J J J κ'88 (sp_32) Ts ?_
   rintro ⟨⟩ -
   try simp only [Ca,Na]
   refine qV (qS (qW [] (e':=[]) J ?_))
   refine sZ ?_
   have hF:(vnF x k ((t:Nat):Int) ((o:Nat):Int))=⟨nxF x.ck k ((t:Nat):Int) ((o:Nat):Int),(upd x.th ((t:Nat):Int) (some (icL l t))),x.lk,x.vo,(upd x.rd (((o:Nat):Int),(opF x.ck ((o:Nat):Int)).1) (some (mgF ((x.rd (((o:Nat):Int),(opF x.ck ((o:Nat):Int)).1)).map (·.1)) l,x.ck.pa.getD o 0)))⟩:=(by rw [vn9 hth k9];(try simp only [Int.toNat_natCast]))
   have hnoy:¬ ∃ (j:Nat) (q:RK),YR[j]?=some q∧q.1=((o:Nat):Int)∧q.2.1=(opF x.ck ((o:Nat):Int)).1:=by
     rintro ⟨j,y,hj,e1,e2⟩
     have hjl:=(List.getElem?_eq_some_iff.1 hj).1
     obtain ⟨v,hv9⟩:=cX (l:=VR) (i:=j) Om
     obtain ⟨e3,e4⟩:=hkr j v _ hv9 hj
     exact hno ⟨j,v,hv9,e3.trans e1,e4.trans e2⟩
   have hyv:l=mgF ((x.rd (((o:Nat):Int),(opF x.ck ((o:Nat):Int)).1)).map (·.1)) l:=by
     cases hp:x.rd (((o:Nat):Int),(opF x.ck ((o:Nat):Int)).1) with
     | none=>rfl
     | some p =>
       obtain ⟨g,hg⟩:=hK.Re _ _ p hp
       obtain ⟨j,hj⟩:=List.getElem?_of_mem hg
       exact absurd ⟨j,_,hj,rfl,rfl⟩ hnoy
   refine optR_someF (b:=tb) (t:=(icL l t)) Td ?_
   refine sJ (res:=optR) (V:=VT) (Y:=tabF x.ck.th.toNat x.th) (S:=[]) t (some ⟨tb,0,none⟩) (some (icL l t)) Ts (by simp) (by first | omega | (simp;omega)) (by rw [tab_len];omega) ?_
   rw [set_sameL hta,tab_set]
   refine rv_fold (b:=b) (vnF x k ((t:Nat):Int) ((o:Nat):Int)) (pa:=pa) (pc:=pc) (cb:=cb) (Ta:=Ta) (Tc:=Tc) (La:=La) (Lc:=Lc) (Oa:=Oa) (Oc:=Oc) (Ra:=ra2) (Rc:=rc2) (VT:=VT) (VL:=VL) (VO:=VO) (VR:=(VR++[((((o:Nat):Int),(opF x.ck ((o:Nat):Int)).1,some ⟨qb,0,none⟩):KP)])) (YR:=(YR++[((((o:Nat):Int),(opF x.ck ((o:Nat):Int)).1,l):RK)])) Ts (by first | rfl | simp) (by first | rfl | simp) (by first | rfl | simp) (by first | rfl | simp) (by rw [hF]) (by rw [hF,hrest.2.1]) (by rw [hF,hrest.2.2.2.2]) (by rw [hF,hrest.2.2.2.1]) (by rw [hF,hrest.2.1];simpa using hVT) (by rw [hF,hrest.2.2.2.2];simpa using hVL) (by rw [hF,hrest.2.2.2.1];simpa using hVO) (by simpa using hVR) (by rw [hF];exact (by rw [← hyv];exact arr_no hx.ck hK k9 hc hnoy hlc)) ?_
   refine ret0 J (()) (by first | rfl | (first | rfl | (congr 1;done) | (congr 1 <;> first | rfl | omega | (simp;done) | (simp;omega)))) (by trivial) ?_
   exact Tf
  refine cY J J J ω'149 (zs:=[.int .i64 0,.int .i64 0]) J ?_
  intro b6
  refine qM (q:=0) J J J α'98 Tk Az (by rfl) ?_
  refine qM (q:=2) J J J α'3 Tk Az (by rfl) ?_
  refine qV ?_
  have sp_33:=Fe.rround_spec pa pc cb x.ck ((o:Nat):Int)
  refine qB J J J J J J Tryz.call84 (sp_33) Ts ?_
  rintro ⟨⟩ -
  try simp only [Ca,Na]
  refine qV (qK J J J J (kX J J J J J (kF 113 J (v':=.agg #[.int .i64 ((opF x.ck ((o:Nat):Int)).1),.int .i64 ((opF x.ck ((o:Nat):Int)).2)]) (by rw [if_pos (show 0≤((o:Nat):Int)∧((o:Nat):Int) < (x.ck.B.length:Int) by omega)]) ?_)))
  refine kX J J J J J (kR (j:=0) J J J J ζ'149 (us:=[_,_]) J J J Tk Az (by first | decide | (simp;done) | omega) ?_)
  simp only [setL,List.set]
  refine qV (qR J J J J (qS (qW [0,3,4,6] (e':=[(0,_),(3,_),(4,_),(6,_)]) J ?_)))
  refine qQ (s_krk (V:=VR) (Y:=YR) Tk fun hkr=>?_)
  refine qC (.q 0 (.q 1 (.q 2 (.q 3 (.q 4 (.q 5 ((.l 6 [] (.done))))))))) Kr ?_
  refine qK J J J J (qG (k:=2) J J J J υ'52 J ζ'3 J ?_)
  refine qP (j:=2) J J J J α'3 Tk Az (by rfl) ?_
  refine qG (k:=0) J J J J υ'149 J ζ'3 J ?_
  refine qP (j:=0) J J J J α'3 Tk Az (by rfl) ?_
  refine qK J J J J ?_
  have hrl:=hK.Rl
  rcases Classical.em (∃ (j:Nat) (q:KP),VR[j]?=some q∧q.1=((o:Nat):Int)∧q.2.1=(opF x.ck ((o:Nat):Int)).1) with hex | hno
  ·
   have sp_34:=keep_yes b Rc tb (.pointer (some ⟨cb,0,none⟩)) (.slice Ta VT.length Tc) (.slice La VL.length Lc) (.slice Oa VO.length Oc) Ra VR YR ((o:Nat):Int) ((opF x.ck ((o:Nat):Int)).1) l hVR Om hex
   refine qB J J J J J J κ'85 (sp_34) Ts ?_
   rintro ri ⟨yq,hyq,hyq1,hyq2⟩
   have hyg:YR.getD ri (0,0,[])=yq:=by rw [List.getD_eq_getElem?_getD,hyq];rfl
   rw [hyg]
   try simp only [Ca,Na]
   refine qV (qS (qW [0,3,4] (e':=[(0,_),(3,_),(4,_)]) J ?_))
   refine kG (qQ (qL (qL (qC (.q 0 (.q 1 ((.l 2 [] (.done))))) Kr ?_))))
   refine qG (k:=0) J J J J υ'52 J ζ'50 J ?_
   refine qP (j:=0) J J J J α'50 Tk Az (by rfl) ?_
   have sp_35:=Rv.more_spec k
   refine qB J J J J J J κ'79 (sp_35) Ts ?_
   rintro ⟨⟩ -
   try simp only [Ca,Na]
   refine qV (qS (qQ ?_))
   refine qF J (fun hg=>?_) (fun hg=>by exfalso;exact hg (by unfold relK;omega))
   refine qC (.q 0 (.q 1 (.q 2 ((.l 3 [] (.done)))))) Kr ?_
   refine qK J J J J (qG (k:=1) J J J J υ'52 J ζ'3 J ?_)
   refine qP (j:=1) J J J J α'3 Tk Az (by rfl) ?_
   have sp_36:=Rv.inc_spec tb l t Om (hlt)
   refine qB J J J J J J κ'33 (sp_36) Ts ?_
   rintro ⟨⟩ -
   try simp only [Ca,Na]
   refine qV (qS (qW [0,3] (e':=[(0,_),(3,_)]) J ?_))
   refine qQ (kM J (.q 0 (.q 1 (.q 2 (.q 3 (.q 4 ((.l 5 [] (.done)))))))) Kr ?_)
   refine qK J J J J (qZ J J J J (qG (k:=0) J J J J υ'104 J ζ'98 J ?_))
   refine qP (j:=0) J J J J α'98 Tk Az (by rfl) ?_
   refine kC J J J J α'52 ζ'52 Tk 0 (us:=[_,_,_]) Az J J ?_
   have sp_37:=Fe.rnext_spec pa pc cb x.ck hx.ck Om pl (hpl) k ((t:Nat):Int) ((o:Nat):Int)
   refine qB J J J J J J κ'88 (sp_37) Ts ?_
   rintro ⟨⟩ -
   try simp only [Ca,Na]
   refine qV (qS (qW [] (e':=[]) J ?_))
   refine sZ ?_
   have hF:(vnF x k ((t:Nat):Int) ((o:Nat):Int))=⟨nxF x.ck k ((t:Nat):Int) ((o:Nat):Int),(upd x.th ((t:Nat):Int) (some (icL l t))),x.lk,x.vo,(upd x.rd (((o:Nat):Int),(opF x.ck ((o:Nat):Int)).1) (some (mgF ((x.rd (((o:Nat):Int),(opF x.ck ((o:Nat):Int)).1)).map (·.1)) l,x.ck.pa.getD o 0)))⟩:=(by rw [vn9 hth k9];(try simp only [Int.toNat_natCast]))
   obtain ⟨hyc,-,hyr⟩:=hK.Rk yq (List.mem_of_getElem? hyq)
   have hyv:mgF (some l) yq.2.2=mgF ((x.rd (((o:Nat):Int),(opF x.ck ((o:Nat):Int)).1)).map (·.1)) l:=by
     have h9:=hK.Rc yq (List.mem_of_getElem? hyq) (by rw [hyq1,hyq2])
     rw [hyq1,hyq2] at h9 hyr
     obtain ⟨p,hp⟩:=Option.isSome_iff_exists.1 h9
     rw [hp,hyr p hp];exact jn_comm (hx.rdc _ _ hp) hlc
   rw [hyv]
   refine optR_someF (b:=tb) (t:=(icL l t)) Td ?_
   refine sJ (res:=optR) (V:=VT) (Y:=tabF x.ck.th.toNat x.th) (S:=[]) t (some ⟨tb,0,none⟩) (some (icL l t)) Ts (by simp) (by first | omega | (simp;omega)) (by rw [tab_len];omega) ?_
   rw [set_sameL hta,tab_set]
   refine rv_fold (b:=b) (vnF x k ((t:Nat):Int) ((o:Nat):Int)) (pa:=pa) (pc:=pc) (cb:=cb) (Ta:=Ta) (Tc:=Tc) (La:=La) (Lc:=Lc) (Oa:=Oa) (Oc:=Oc) (Ra:=Ra) (Rc:=Rc) (VT:=VT) (VL:=VL) (VO:=VO) (VR:=VR) (YR:=(YR.set ri (yq.1,yq.2.1,mgF ((x.rd (((o:Nat):Int),(opF x.ck ((o:Nat):Int)).1)).map (·.1)) l))) Ts (by first | rfl | simp) (by first | rfl | simp) (by first | rfl | simp) (by first | rfl | simp) (by rw [hF]) (by rw [hF,hrest.2.1]) (by rw [hF,hrest.2.2.2.2]) (by rw [hF,hrest.2.2.2.1]) (by rw [hF,hrest.2.1];simpa using hVT) (by rw [hF,hrest.2.2.2.2];simpa using hVL) (by rw [hF,hrest.2.2.2.1];simpa using hVO) (by simpa using hVR) (by rw [hF];exact arr_yes hx.ck hK k9 hc hyq hyq1 hyq2 (mg_cv hlc fun q_ h_=>map_fst_cv hx h_)) ?_
   refine ret0 J (()) (by first | rfl | (first | rfl | (congr 1;done) | (congr 1 <;> first | rfl | omega | (simp;done) | (simp;omega)))) (by trivial) ?_
   exact Tf
  have sp_38:=keep_no b Rc tb (.pointer (some ⟨cb,0,none⟩)) (.slice Ta VT.length Tc) (.slice La VL.length Lc) (.slice Oa VO.length Oc) Ra VR YR ((o:Nat):Int) ((opF x.ck ((o:Nat):Int)).1) l hVR Om hno
  refine qB J J J J J J κ'85 (sp_38) Ts ?_
  rintro ⟨qb,ra2,rc2⟩ -
  try simp only [Ca,Na]
  refine qV (qS (qW [0,3,4] (e':=[(0,_),(3,_),(4,_)]) J ?_))
  refine kG (qQ (qL (qL (qC (.q 0 (.q 1 ((.l 2 [] (.done))))) Kr ?_))))
  refine qG (k:=0) J J J J υ'52 J ζ'50 J ?_
  refine qP (j:=0) J J J J α'50 Tk Az (by rfl) ?_
  have sp_39:=Rv.more_spec k
  refine qB J J J J J J κ'79 (sp_39) Ts ?_
  rintro ⟨⟩ -
  try simp only [Ca,Na]
  refine qV (qS (qQ ?_))
  refine qF J (fun hg=>?_) (fun hg=>by exfalso;exact hg (by unfold relK;omega))
  refine qC (.q 0 (.q 1 (.q 2 ((.l 3 [] (.done)))))) Kr ?_
  refine qK J J J J (qG (k:=1) J J J J υ'52 J ζ'3 J ?_)
  refine qP (j:=1) J J J J α'3 Tk Az (by rfl) ?_
  have sp_40:=Rv.inc_spec tb l t Om (hlt)
  refine qB J J J J J J κ'33 (sp_40) Ts ?_
  rintro ⟨⟩ -
  try simp only [Ca,Na]
  refine qV (qS (qW [0,3] (e':=[(0,_),(3,_)]) J ?_))
  refine qQ (kM J (.q 0 (.q 1 (.q 2 (.q 3 (.q 4 ((.l 5 [] (.done)))))))) Kr ?_)
  refine qK J J J J (qZ J J J J (qG (k:=0) J J J J υ'104 J ζ'98 J ?_))
  refine qP (j:=0) J J J J α'98 Tk Az (by rfl) ?_
  refine kC J J J J α'52 ζ'52 Tk 0 (us:=[_,_,_]) Az J J ?_
  have sp_41:=Fe.rnext_spec pa pc cb x.ck hx.ck Om pl (hpl) k ((t:Nat):Int) ((o:Nat):Int)
  refine qB J J J J J J κ'88 (sp_41) Ts ?_
  rintro ⟨⟩ -
  try simp only [Ca,Na]
  refine qV (qS (qW [] (e':=[]) J ?_))
  refine sZ ?_
  have hF:(vnF x k ((t:Nat):Int) ((o:Nat):Int))=⟨nxF x.ck k ((t:Nat):Int) ((o:Nat):Int),(upd x.th ((t:Nat):Int) (some (icL l t))),x.lk,x.vo,(upd x.rd (((o:Nat):Int),(opF x.ck ((o:Nat):Int)).1) (some (mgF ((x.rd (((o:Nat):Int),(opF x.ck ((o:Nat):Int)).1)).map (·.1)) l,x.ck.pa.getD o 0)))⟩:=(by rw [vn9 hth k9];(try simp only [Int.toNat_natCast]))
  have hnoy:¬ ∃ (j:Nat) (q:RK),YR[j]?=some q∧q.1=((o:Nat):Int)∧q.2.1=(opF x.ck ((o:Nat):Int)).1:=by
    rintro ⟨j,y,hj,e1,e2⟩
    have hjl:=(List.getElem?_eq_some_iff.1 hj).1
    obtain ⟨v,hv9⟩:=cX (l:=VR) (i:=j) Om
    obtain ⟨e3,e4⟩:=hkr j v _ hv9 hj
    exact hno ⟨j,v,hv9,e3.trans e1,e4.trans e2⟩
  have hyv:l=mgF ((x.rd (((o:Nat):Int),(opF x.ck ((o:Nat):Int)).1)).map (·.1)) l:=by
    cases hp:x.rd (((o:Nat):Int),(opF x.ck ((o:Nat):Int)).1) with
    | none=>rfl
    | some p =>
      obtain ⟨g,hg⟩:=hK.Re _ _ p hp
      obtain ⟨j,hj⟩:=List.getElem?_of_mem hg
      exact absurd ⟨j,_,hj,rfl,rfl⟩ hnoy
  refine optR_someF (b:=tb) (t:=(icL l t)) Td ?_
  refine sJ (res:=optR) (V:=VT) (Y:=tabF x.ck.th.toNat x.th) (S:=[]) t (some ⟨tb,0,none⟩) (some (icL l t)) Ts (by simp) (by first | omega | (simp;omega)) (by rw [tab_len];omega) ?_
  rw [set_sameL hta,tab_set]
  refine rv_fold (b:=b) (vnF x k ((t:Nat):Int) ((o:Nat):Int)) (pa:=pa) (pc:=pc) (cb:=cb) (Ta:=Ta) (Tc:=Tc) (La:=La) (Lc:=Lc) (Oa:=Oa) (Oc:=Oc) (Ra:=ra2) (Rc:=rc2) (VT:=VT) (VL:=VL) (VO:=VO) (VR:=(VR++[((((o:Nat):Int),(opF x.ck ((o:Nat):Int)).1,some ⟨qb,0,none⟩):KP)])) (YR:=(YR++[((((o:Nat):Int),(opF x.ck ((o:Nat):Int)).1,l):RK)])) Ts (by first | rfl | simp) (by first | rfl | simp) (by first | rfl | simp) (by first | rfl | simp) (by rw [hF]) (by rw [hF,hrest.2.1]) (by rw [hF,hrest.2.2.2.2]) (by rw [hF,hrest.2.2.2.1]) (by rw [hF,hrest.2.1];simpa using hVT) (by rw [hF,hrest.2.2.2.2];simpa using hVL) (by rw [hF,hrest.2.2.2.1];simpa using hVO) (by simpa using hVR) (by rw [hF];exact (by rw [← hyv];exact arr_no hx.ck hK k9 hc hnoy hlc)) ?_
  refine ret0 J (()) (by first | rfl | (first | rfl | (congr 1;done) | (congr 1 <;> first | rfl | omega | (simp;done) | (simp;omega)))) (by trivial) ?_
  exact Tf
 refine qL (qC (.q 0 (.q 1 (.done))) Kr ?_)
 refine qD J J J J J (cZ _ _ _ _) ?_
 refine qR J J J J (qS (qW [0,3,4,122] (e':=[(0,_),(3,_),(4,_),(122,_)]) J ?_))
 refine qQ ?_
 refine qF J (fun k10=>?_) (fun k10=>?_)
 ·
  refine qL ?_
  obtain ⟨q1,q2,q3⟩:=o10 k10
  obtain ⟨p,hrd,hp1⟩:=rd_some hx q1 q3
  have hrf:rdF x (((o:Nat):Int),(stF x.ck ((t:Nat):Int)).2.2)=p:=by rw [rdF,hrd];rfl
  have hrlt:(stF x.ck ((t:Nat):Int)).2.2 < (opF x.ck ((o:Nat):Int)).1:=by rw [q3];exact q2.2
  refine kM J (.q 0 (.q 1 (.q 2 (.q 3 (.q 4 (.q 5 ((.alt (.l 6 [] (.q 7 (.q 8 (.q 9 ((.l 10 [] ((.l 11 [] (.q 12 (.done)))))))))) (.l 10 [3,5] ((.l 6 [] (.q 7 (.q 8 (.q 9 ((.l 11 [] (.q 12 (.done)))))))))))))))))) Kr ?_
  refine qK J J J J (qZ J J J J (qG (k:=0) J J J J υ'104 J ζ'98 J ?_))
  refine qP (j:=0) J J J J α'98 Tk Az (by rfl) ?_
  refine qG (k:=1) J J J J υ'52 J ζ'3 J ?_
  refine qP (j:=1) J J J J α'3 Tk Az (by rfl) ?_
  refine rV ?_ ?_
  ·
   have sp_42:=Fe.rstand_spec pa pc cb x.ck hx.ck ((t:Nat):Int)
   refine qB J J J J J J Tryz.call86 (sp_42) Ts ?_
   rintro ⟨⟩ -
   try simp only [Ca,Na]
   refine qV (qK J J J J (kX J J J J J (kX J J J J J (cY J J J ω'133 (zs:=[.int .i64 0,.int .i64 0,.int .i64 0]) J ?_))))
   intro b8
   refine qV (kR (j:=0) J J J J ζ'133 (us:=[_,_,_]) J J J Tk Az (by first | decide | (simp;done) | omega) ?_)
   simp only [setL,List.set]
   refine qV (qR J J J J (qS (qW [0,3,4,8] (e':=[(0,_),(3,_),(4,_),(8,_)]) J ?_)))
   refine qQ (s_krk (V:=VR) (Y:=YR) Tk fun hkr=>?_)
   have hrl:=hK.Rl
   have hex:∃ (j:Nat) (q:KP),VR[j]?=some q∧q.1=((o:Nat):Int)∧q.2.1=(stF x.ck ((t:Nat):Int)).2.2:=by
     obtain ⟨g,hg⟩:=hK.Re _ _ p hrd
     obtain ⟨j,hj⟩:=List.getElem?_of_mem hg
     have hjl:=(List.getElem?_eq_some_iff.1 hj).1
     obtain ⟨v,hv9⟩:=cX (l:=VR) (i:=j) Om
     obtain ⟨e1,e2⟩:=hkr j v _ hv9 hj
     exact ⟨j,v,hv9,e1,e2⟩
   refine kM J (.q 0 (.q 1 (.q 2 (.q 3 (.q 4 (.q 5 (.q 6 (.q 7 (.q 8 (.q 9 ((.l 10 [4] (.q 11 (.q 12 (.q 13 ((.l 14 [] (.done)))))))))))))))))) Kr ?_
   refine qK J J J J (qK J J J J (qZ J J J J (qG (k:=4) J J J J υ'104 J ζ'102 J ?_)))
   refine qP (j:=4) J J J J α'102 Tk Az (by rfl) ?_
   refine qK J J J J (qG (k:=2) J J J J υ'52 J ζ'3 J ?_)
   refine qP (j:=2) J J J J α'3 Tk Az (by rfl) ?_
   refine qG (k:=2) J J J J υ'133 J ζ'3 J ?_
   refine qP (j:=2) J J J J α'3 Tk Az (by rfl) ?_
   have sp_43:=round_yes b VR.length Rc (.pointer (some ⟨cb,0,none⟩)) (.slice Ta VT.length Tc) (.slice La VL.length Lc) (.slice Oa VO.length Oc) Ra VR ((o:Nat):Int) ((stF x.ck ((t:Nat):Int)).2.2) Ln Om hex
   refine qB J J J J J J κ'87 (sp_43) Ts ?_
   rintro ri ⟨rq,hrq,hrq1,hrq2⟩
   have hril:=(List.getElem?_eq_some_iff.1 hrq).1
   try simp only [Ca,Na]
   refine qM (q:=4) J J J α'102 Tk Az (by rfl) ?_
   refine qV ?_
   obtain ⟨yq,hyq⟩:=cX (l:=YR) (i:=ri) Om
   obtain ⟨e1,e2⟩:=hkr ri rq yq hrq hyq
   obtain ⟨hyc,-,hyr⟩:=hK.Rk yq (List.mem_of_getElem? hyq)
   have hypt:yq.2.2=p.1:=hyr p (by rw [← e1,← e2,hrq1,hrq2];exact hrd)
   refine rQ (res:=krA) (V:=VR) (Y:=YR) (S:=[]) ri Tk (by simp) hyq fun v hvr=>?_
   refine s_kr Tk fun rb hrb=>?_
   have hvq:rq=(yq.1,yq.2.1,some ⟨rb,0,none⟩):=by rw [hrq] at hvr;cases hvr;exact hrb
   rw [hvq] at hrq
   rw [hrb] at hvr
   refine cK (sz:=2) (k:=ri) (enc:=encK) (xs:=VR) J J J J J υ'102 ζ'180 hrq (by first | rfl | omega) Om Tk ?_
   intro ib145 io145 ha145 hl145 hc145
   refine qG (k:=2) J J J J υ'180 J ζ'105 J ?_
   refine cQ (v:=(.pointer (some ⟨rb,0,none⟩))) (j:=2) (k':=ri) (enc:=encK) (off:=io145) J J J J α'105 ha145 encK_len hrq Tk (by first | rfl | exact (Ad _).symm | omega) (by rfl) ?_
   refine optR_someF (b:=rb) (t:=yq.2.2) Td ?_
   have sp_44:=joined_spec tb l (some ⟨rb,0,none⟩:Option Addr) (some yq.2.2)
   refine qB J J J J J J κ'81 (sp_44) Ts ?_
   rintro ⟨⟩ -
   try simp only [Ca,Na]
   refine qV (optR_some (a:=(some ⟨rb,0,none⟩)) (t:=yq.2.2) Td fun rb_ hrb_=>?_)
   cases hrb_
   refine s_krF rb yq Td ?_
   refine rX (res:=krA) (V:=VR) (Y:=YR) (S:=[]) ri Ts (by simp) hrq hyq ?_
   refine qS (qW [0,3,4] (e':=[(0,_),(3,_),(4,_)]) J ?_)
   refine kG (qQ (qL (qL (qC (.q 0 (.q 1 ((.l 2 [] (.done))))) Kr ?_))))
   refine qG (k:=0) J J J J υ'52 J ζ'50 J ?_
   refine qP (j:=0) J J J J α'50 Tk Az (by rfl) ?_
   have sp_45:=Rv.more_spec k
   refine qB J J J J J J κ'79 (sp_45) Ts ?_
   rintro ⟨⟩ -
   try simp only [Ca,Na]
   refine qV (qS (qQ ?_))
   refine qF J (fun hg=>by exfalso;unfold relK at hg;omega) (fun hg=>?_)
   refine qH (qQ (kM J (.q 0 (.q 1 (.q 2 (.q 3 (.q 4 ((.l 5 [] (.done)))))))) Kr ?_))
   refine qK J J J J (qZ J J J J (qG (k:=0) J J J J υ'104 J ζ'98 J ?_))
   refine qP (j:=0) J J J J α'98 Tk Az (by rfl) ?_
   refine kC J J J J α'52 ζ'52 Tk 0 (us:=[_,_,_]) Az J J ?_
   have sp_46:=Fe.rnext_spec pa pc cb x.ck hx.ck Om pl (hpl) k ((t:Nat):Int) ((o:Nat):Int)
   refine qB J J J J J J κ'88 (sp_46) Ts ?_
   rintro ⟨⟩ -
   try simp only [Ca,Na]
   refine qV (qS (qW [] (e':=[]) J ?_))
   refine sZ ?_
   have hF:(vnF x k ((t:Nat):Int) ((o:Nat):Int))=⟨nxF x.ck k ((t:Nat):Int) ((o:Nat):Int),(upd x.th ((t:Nat):Int) (some (jn l p.1))),x.lk,x.vo,(upd x.rd (((o:Nat):Int),(stF x.ck ((t:Nat):Int)).2.2) (if p.2 - 1≤0 then none else some (p.1,p.2 - 1)))⟩:=(by rw [vn10 hth k10];simp only [dpF,thF_eq hth,hrf])
   rw [show mgF (some yq.2.2) l=jn l p.1 from by rw [hypt];rfl]
   refine optR_someF (b:=tb) (t:=(jn l p.1)) Td ?_
   refine sJ (res:=optR) (V:=VT) (Y:=tabF x.ck.th.toNat x.th) (S:=[]) t (some ⟨tb,0,none⟩) (some (jn l p.1)) Ts (by simp) (by first | omega | (simp;omega)) (by rw [tab_len];omega) ?_
   rw [set_sameL hta,tab_set]
   refine rv_fold (b:=b) (vnF x k ((t:Nat):Int) ((o:Nat):Int)) (pa:=pa) (pc:=pc) (cb:=cb) (Ta:=Ta) (Tc:=Tc) (La:=La) (Lc:=Lc) (Oa:=Oa) (Oc:=Oc) (Ra:=Ra) (Rc:=Rc) (VT:=VT) (VL:=VL) (VO:=VO) (VR:=VR) (YR:=YR) Ts (by first | rfl | simp) (by first | rfl | simp) (by first | rfl | simp) (by first | rfl | simp) (by rw [hF]) (by rw [hF,hrest.2.1]) (by rw [hF,hrest.2.2.2.2]) (by rw [hF,hrest.2.2.2.1]) (by rw [hF,hrest.2.1];simpa using hVT) (by rw [hF,hrest.2.2.2.2];simpa using hVL) (by rw [hF,hrest.2.2.2.1];simpa using hVO) (by simpa using hVR) (by rw [hF];exact relK_keep (relK_dep hK hrd hrlt _ (fun s hs=>by split at hs <;> cases hs;rfl)) hx.ck hc Om) ?_
   refine ret0 J (()) (by first | rfl | (first | rfl | (congr 1;done) | (congr 1 <;> first | rfl | omega | (simp;done) | (simp;omega)))) (by trivial) ?_
   exact Tf
  refine cY J J J ω'133 (zs:=[.int .i64 0,.int .i64 0,.int .i64 0]) J ?_
  intro b8
  refine qM (q:=0) J J J α'98 Tk Az (by rfl) ?_
  refine qM (q:=1) J J J α'3 Tk Az (by rfl) ?_
  refine qV ?_
  have sp_47:=Fe.rstand_spec pa pc cb x.ck hx.ck ((t:Nat):Int)
  refine qB J J J J J J Tryz.call86 (sp_47) Ts ?_
  rintro ⟨⟩ -
  try simp only [Ca,Na]
  refine qV (qK J J J J (kX J J J J J (kX J J J J J (kR (j:=0) J J J J ζ'133 (us:=[_,_,_]) J J J Tk Az (by first | decide | (simp;done) | omega) ?_))))
  simp only [setL,List.set]
  refine qV (qR J J J J (qS (qW [0,3,4,8] (e':=[(0,_),(3,_),(4,_),(8,_)]) J ?_)))
  refine qQ (s_krk (V:=VR) (Y:=YR) Tk fun hkr=>?_)
  have hrl:=hK.Rl
  have hex:∃ (j:Nat) (q:KP),VR[j]?=some q∧q.1=((o:Nat):Int)∧q.2.1=(stF x.ck ((t:Nat):Int)).2.2:=by
    obtain ⟨g,hg⟩:=hK.Re _ _ p hrd
    obtain ⟨j,hj⟩:=List.getElem?_of_mem hg
    have hjl:=(List.getElem?_eq_some_iff.1 hj).1
    obtain ⟨v,hv9⟩:=cX (l:=VR) (i:=j) Om
    obtain ⟨e1,e2⟩:=hkr j v _ hv9 hj
    exact ⟨j,v,hv9,e1,e2⟩
  refine kM J (.q 0 (.q 1 (.q 2 (.q 3 (.q 4 (.q 5 (.q 6 (.q 7 (.q 8 (.q 9 ((.l 10 [4] (.q 11 (.q 12 (.q 13 ((.l 14 [] (.done)))))))))))))))))) Kr ?_
  refine qK J J J J (qK J J J J (qZ J J J J (qG (k:=4) J J J J υ'104 J ζ'102 J ?_)))
  refine qP (j:=4) J J J J α'102 Tk Az (by rfl) ?_
  refine qK J J J J (qG (k:=2) J J J J υ'52 J ζ'3 J ?_)
  refine qP (j:=2) J J J J α'3 Tk Az (by rfl) ?_
  refine qG (k:=2) J J J J υ'133 J ζ'3 J ?_
  refine qP (j:=2) J J J J α'3 Tk Az (by rfl) ?_
  have sp_48:=round_yes b VR.length Rc (.pointer (some ⟨cb,0,none⟩)) (.slice Ta VT.length Tc) (.slice La VL.length Lc) (.slice Oa VO.length Oc) Ra VR ((o:Nat):Int) ((stF x.ck ((t:Nat):Int)).2.2) Ln Om hex
  refine qB J J J J J J κ'87 (sp_48) Ts ?_
  rintro ri ⟨rq,hrq,hrq1,hrq2⟩
  have hril:=(List.getElem?_eq_some_iff.1 hrq).1
  try simp only [Ca,Na]
  refine qM (q:=4) J J J α'102 Tk Az (by rfl) ?_
  refine qV ?_
  obtain ⟨yq,hyq⟩:=cX (l:=YR) (i:=ri) Om
  obtain ⟨e1,e2⟩:=hkr ri rq yq hrq hyq
  obtain ⟨hyc,-,hyr⟩:=hK.Rk yq (List.mem_of_getElem? hyq)
  have hypt:yq.2.2=p.1:=hyr p (by rw [← e1,← e2,hrq1,hrq2];exact hrd)
  refine rQ (res:=krA) (V:=VR) (Y:=YR) (S:=[]) ri Tk (by simp) hyq fun v hvr=>?_
  refine s_kr Tk fun rb hrb=>?_
  have hvq:rq=(yq.1,yq.2.1,some ⟨rb,0,none⟩):=by rw [hrq] at hvr;cases hvr;exact hrb
  rw [hvq] at hrq
  rw [hrb] at hvr
  refine cK (sz:=2) (k:=ri) (enc:=encK) (xs:=VR) J J J J J υ'102 ζ'180 hrq (by first | rfl | omega) Om Tk ?_
  intro ib145 io145 ha145 hl145 hc145
  refine qG (k:=2) J J J J υ'180 J ζ'105 J ?_
  refine cQ (v:=(.pointer (some ⟨rb,0,none⟩))) (j:=2) (k':=ri) (enc:=encK) (off:=io145) J J J J α'105 ha145 encK_len hrq Tk (by first | rfl | exact (Ad _).symm | omega) (by rfl) ?_
  refine optR_someF (b:=rb) (t:=yq.2.2) Td ?_
  have sp_49:=joined_spec tb l (some ⟨rb,0,none⟩:Option Addr) (some yq.2.2)
  refine qB J J J J J J κ'81 (sp_49) Ts ?_
  rintro ⟨⟩ -
  try simp only [Ca,Na]
  refine qV (optR_some (a:=(some ⟨rb,0,none⟩)) (t:=yq.2.2) Td fun rb_ hrb_=>?_)
  cases hrb_
  refine s_krF rb yq Td ?_
  refine rX (res:=krA) (V:=VR) (Y:=YR) (S:=[]) ri Ts (by simp) hrq hyq ?_
  refine qS (qW [0,3,4] (e':=[(0,_),(3,_),(4,_)]) J ?_)
  refine kG (qQ (qL (qL (qC (.q 0 (.q 1 ((.l 2 [] (.done))))) Kr ?_))))
  refine qG (k:=0) J J J J υ'52 J ζ'50 J ?_
  refine qP (j:=0) J J J J α'50 Tk Az (by rfl) ?_
  have sp_50:=Rv.more_spec k
  refine qB J J J J J J κ'79 (sp_50) Ts ?_
  rintro ⟨⟩ -
  try simp only [Ca,Na]
  refine qV (qS (qQ ?_))
  refine qF J (fun hg=>by exfalso;unfold relK at hg;omega) (fun hg=>?_)
  refine qH (qQ (kM J (.q 0 (.q 1 (.q 2 (.q 3 (.q 4 ((.l 5 [] (.done)))))))) Kr ?_))
  refine qK J J J J (qZ J J J J (qG (k:=0) J J J J υ'104 J ζ'98 J ?_))
  refine qP (j:=0) J J J J α'98 Tk Az (by rfl) ?_
  refine kC J J J J α'52 ζ'52 Tk 0 (us:=[_,_,_]) Az J J ?_
  have sp_51:=Fe.rnext_spec pa pc cb x.ck hx.ck Om pl (hpl) k ((t:Nat):Int) ((o:Nat):Int)
  refine qB J J J J J J κ'88 (sp_51) Ts ?_
  rintro ⟨⟩ -
  try simp only [Ca,Na]
  refine qV (qS (qW [] (e':=[]) J ?_))
  refine sZ ?_
  have hF:(vnF x k ((t:Nat):Int) ((o:Nat):Int))=⟨nxF x.ck k ((t:Nat):Int) ((o:Nat):Int),(upd x.th ((t:Nat):Int) (some (jn l p.1))),x.lk,x.vo,(upd x.rd (((o:Nat):Int),(stF x.ck ((t:Nat):Int)).2.2) (if p.2 - 1≤0 then none else some (p.1,p.2 - 1)))⟩:=(by rw [vn10 hth k10];simp only [dpF,thF_eq hth,hrf])
  rw [show mgF (some yq.2.2) l=jn l p.1 from by rw [hypt];rfl]
  refine optR_someF (b:=tb) (t:=(jn l p.1)) Td ?_
  refine sJ (res:=optR) (V:=VT) (Y:=tabF x.ck.th.toNat x.th) (S:=[]) t (some ⟨tb,0,none⟩) (some (jn l p.1)) Ts (by simp) (by first | omega | (simp;omega)) (by rw [tab_len];omega) ?_
  rw [set_sameL hta,tab_set]
  refine rv_fold (b:=b) (vnF x k ((t:Nat):Int) ((o:Nat):Int)) (pa:=pa) (pc:=pc) (cb:=cb) (Ta:=Ta) (Tc:=Tc) (La:=La) (Lc:=Lc) (Oa:=Oa) (Oc:=Oc) (Ra:=Ra) (Rc:=Rc) (VT:=VT) (VL:=VL) (VO:=VO) (VR:=VR) (YR:=YR) Ts (by first | rfl | simp) (by first | rfl | simp) (by first | rfl | simp) (by first | rfl | simp) (by rw [hF]) (by rw [hF,hrest.2.1]) (by rw [hF,hrest.2.2.2.2]) (by rw [hF,hrest.2.2.2.1]) (by rw [hF,hrest.2.1];simpa using hVT) (by rw [hF,hrest.2.2.2.2];simpa using hVL) (by rw [hF,hrest.2.2.2.1];simpa using hVO) (by simpa using hVR) (by rw [hF];exact relK_keep (relK_dep hK hrd hrlt _ (fun s hs=>by split at hs <;> cases hs;rfl)) hx.ck hc Om) ?_
  refine ret0 J (()) (by first | rfl | (first | rfl | (congr 1;done) | (congr 1 <;> first | rfl | omega | (simp;done) | (simp;omega)))) (by trivial) ?_
  exact Tf
 refine qH (kG (qQ (qL (qL (qC (.q 0 (.q 1 ((.l 2 [] (.done))))) Kr ?_)))))
 refine qG (k:=0) J J J J υ'52 J ζ'50 J ?_
 refine qP (j:=0) J J J J α'50 Tk Az (by rfl) ?_
 have sp_52:=Rv.more_spec k
 refine qB J J J J J J κ'79 (sp_52) Ts ?_
 rintro ⟨⟩ -
 try simp only [Ca,Na]
 refine qV (qS (qQ ?_))
 refine qF J (fun hg=>by exfalso;unfold relK at hg;omega) (fun hg=>?_)
 refine qH (qQ (kM J (.q 0 (.q 1 (.q 2 (.q 3 (.q 4 ((.l 5 [] (.done)))))))) Kr ?_))
 refine qK J J J J (qZ J J J J (qG (k:=0) J J J J υ'104 J ζ'98 J ?_))
 refine qP (j:=0) J J J J α'98 Tk Az (by rfl) ?_
 refine kC J J J J α'52 ζ'52 Tk 0 (us:=[_,_,_]) Az J J ?_
 have sp_53:=Fe.rnext_spec pa pc cb x.ck hx.ck Om pl (hpl) k ((t:Nat):Int) ((o:Nat):Int)
 refine qB J J J J J J κ'88 (sp_53) Ts ?_
 rintro ⟨⟩ -
 try simp only [Ca,Na]
 refine qV (qS (qW [] (e':=[]) J ?_))
 refine sZ ?_
 have hF:(vnF x k ((t:Nat):Int) ((o:Nat):Int))=⟨nxF x.ck k ((t:Nat):Int) ((o:Nat):Int),x.th,x.lk,x.vo,x.rd⟩:=(by rw [vn0 Om Om Om Om Om Om Om Om])
 refine optR_someF (b:=tb) (t:=l) Tk ?_
 refine rX (res:=optR) (V:=VT) (Y:=tabF x.ck.th.toNat x.th) (S:=[]) t Ts (by simp) hta htt ?_
 refine rv_fold (b:=b) (vnF x k ((t:Nat):Int) ((o:Nat):Int)) (pa:=pa) (pc:=pc) (cb:=cb) (Ta:=Ta) (Tc:=Tc) (La:=La) (Lc:=Lc) (Oa:=Oa) (Oc:=Oc) (Ra:=Ra) (Rc:=Rc) (VT:=VT) (VL:=VL) (VO:=VO) (VR:=VR) (YR:=YR) Ts (by first | rfl | simp) (by first | rfl | simp) (by first | rfl | simp) (by first | rfl | simp) (by rw [hF]) (by rw [hF,hrest.2.1]) (by rw [hF,hrest.2.2.2.2]) (by rw [hF,hrest.2.2.2.1]) (by rw [hF,hrest.2.1];simpa using hVT) (by rw [hF,hrest.2.2.2.2];simpa using hVL) (by rw [hF,hrest.2.2.2.1];simpa using hVO) (by simpa using hVR) (by rw [hF];exact relK_keep hK hx.ck hc Om) ?_
 refine ret0 J (()) (by first | rfl | (first | rfl | (congr 1;done) | (congr 1 <;> first | rfl | omega | (simp;done) | (simp;omega)))) (by trivial) ?_
 exact Tf
theorem vnext_spec (pa:Option Addr) (pc b:Nat) (x:VS) (hx:VInv x) (hn:x.ck.n≤4000000000000) (pl:List Int) (hpl:x.ck.pa=pl) (k t o:Int) (hv:vcanF x k t o):Spec Tryz.prog 39 [.pointer (some ⟨b,0,none⟩),.agg #[.int .i64 k,.int .i64 t,.int .i64 o]] [rvR pa pc b x,own 1 encZ pa pc pl] (fun (_:Unit)=>.tuple #[]) (fun _=>True) (fun _=>[rvR pa pc b (vnF x k t o),own 1 encZ pa pc pl]):=by
  have hc:=hv.1
  obtain ⟨h1,-⟩:=th_rng hx (can_th hc)
  have h2:0≤o:=by
    rcases hc with ⟨a,-,e,-⟩ | ⟨-,e,-⟩
    · rw [e];exact ((stF_inv hx.ck t).2.2.1 a).1
    · exact e
  obtain ⟨i,rfl⟩:=Int.eq_ofNat_of_zero_le h1
  obtain ⟨j,rfl⟩:=Int.eq_ofNat_of_zero_le h2
  exact vnext_can pa pc b x hx hn pl hpl k i j hv
end Go.Ab.Rv
set_option linter.unusedVariables false
set_option linter.unusedSimpArgs false
set_option maxRecDepth 100000
namespace Go.Ab.Dj
open Go Go.Proofs Go.Ab Go.Ab.Fe Go.Ab.Vc
def vNew (th va vo lk:Int) (pl:List Int):VS:=⟨newF th va vo lk pl,upd noF 0 (some [1]),noF,noF,noF⟩
theorem one_cv:CV [1]:=⟨by simp [Tr],by decide,by decide⟩
theorem new_vinv {th va vo lk:Int} {pl:List Int} (hok:OkS th va vo lk pl) (hc:CInv (newF th va vo lk pl)):VInv (vNew th va vo lk pl):=by
  have h1:=hok.th
  have hst:∀ t,stF (newF th va vo lk pl) t=if t=0 then (1,0,0) else (0,0,0):=fun t=>by
    have h:=(rel_new hok).st t
    rw [← h]
    unfold upd noF
    split <;> rfl
  have hT:∀ b r:Int,wtN (newF th va vo lk pl) b r=0:=fun b r=>by
    unfold wtN
    rw [List.countP_eq_zero]
    intro s hs h2
    have h3:=of_decide_eq_true h2
    obtain ⟨i,hi⟩:=List.getElem?_of_mem hs
    have h4:=hst (i:Int)
    rw [stF,if_neg Om,Int.toNat_natCast,getD_some hi,h3] at h4
    split at h4 <;> simp at h4
  have hB:∀ b:Int,0≤(opF (newF th va vo lk pl) b).2:=fun b=>by
    unfold opF newF
    rcases getD_mem' (List.replicate pl.length ((0:Int),(0:Int))) b.toNat (0,0) with h | h
    · rw [h];decide
    · rw [(List.mem_replicate.1 h).2];decide
  refine ⟨hc,fun t=>?_,fun t l h=>?_,fun t l h=>(by cases h),fun t l h=>(by cases h),fun r p h=>(by cases h),fun r p h=>(by cases h),fun b r=>?_,fun b _ _=>?_⟩
  · show (upd noF 0 (some [1]) t).isSome=true↔(stF (newF th va vo lk pl) t).1≠0
    rw [isS_upd,hst]
    split <;> simp_all [noF]
  · rcases upd_some (show upd noF 0 (some [1]) t=some l from h) with ⟨-,h⟩ | ⟨-,h⟩
    · cases h;exact one_cv
    · cases h
  · show ((wtN (newF th va vo lk pl) b r:Nat):Int)≤_
    rw [hT];exact Int.le_refl _
  · show ((wtN (newF th va vo lk pl) b _:Nat):Int)≤(opF (newF th va vo lk pl) b).2
    rw [hT];exact hB b
/-- What is kept of a variable: its reads, its writes, its flag. -/
abbrev P4:=Option Addr × Option Addr × Int × Bool
abbrev V4:=List Int × List Int × Int × Bool
def encV (x:P4):List Value:=[.pointer x.1,.pointer x.2.1,.int .i64 x.2.2.1,.bool x.2.2.2]
def varA (v:P4) (t:V4):HProp:=fun h=>v.2.2=t.2.2∧Sat [vecA v.1 t.1,vecA v.2.1 t.2.1] h
structure DS where
  v:VS
  vs:List V4
  cost:Int
structure V4Inv (T:Int) (w:V4):Prop where
  r:CV w.1
  w:CV w.2.1
structure DInv (x:DS):Prop where
  v:VInv x.v
  len:(x.vs.length:Int)=x.v.ck.va
  vs:∀ w∈x.vs,CV w.1∧CV w.2.1
  c0:0≤x.cost∧x.cost≤2*x.v.ck.n
def dR (pa:Option Addr) (pc:Nat) (po:Option Addr) (poc b:Nat) (x:DS):HProp:=fun h=>∃ vb va vc V,V.length=x.vs.length∧Sat [cells b 0 [.pointer (some ⟨vb,0,none⟩),.slice va x.vs.length vc,.int .i64 x.cost],vsR pa pc po poc vb x.v,own 4 encV va vc V,restL varA V x.vs []] h
section
variable {w0:World} {ds:List Deferred} {n:Nat} {e:Env} {Γ Γ':List HProp} {X:Act→World→Prop}
end
def v0:V4:=([],[],0,false)
def dNew (th va vo lk:Int) (pl:List Int):DS:=⟨vNew th va vo lk pl,List.replicate va.toNat v0,0⟩
theorem begin_spec (th va vo lk:Int) (pl:List Int) (ao:Option Addr) (n c:Nat) (A:HProp) (hr:RdS A ao (pl.flatMap encZ)) (hn:pl.length=n) (hb:n≤4000000) (hok:OkS th va vo lk pl):Spec Tryz.prog 16 [.agg #[.int .i64 th,.int .i64 va,.int .i64 vo,.int .i64 lk,.slice ao n c]] [A] (fun (r:(Nat × Nat × Option Addr × Nat) × Option Addr × Nat)=>.tuple #[.pointer (some ⟨r.1.1,0,none⟩),.int .i64 0]) (fun r=>True) (fun r=>[A,own 1 encZ r.1.2.2.1 r.1.2.2.2 pl,own 1 encZ r.2.1 r.2.2 pl,vsR r.1.2.2.1 r.1.2.2.2 r.2.1 r.2.2 r.1.1 (vNew th va vo lk pl)]):=by
 refine kS (n:=33) Tryz.func16 J J J ?_
 intro Γ w0
 simp only [argE,Ca,Na,Zd,Nat.reduceAdd]
 refine qL (qC ((.l 0 [] (.q 1 (.q 2 (.done))))) Kr ?_)
 refine sG J J J J (us:=[_,_,_,_,_]) J ?_
 intro b1
 refine qV (qR J J J J (qR J J J J (qS (qQ (qL (qC (.q 0 ((.l 1 [] (.q 2 (.q 3 (.q 4 (.q 5 (.q 6 (.done))))))))) Kr ?_))))))
 refine kC J J J J α'24 ζ'24 Tk 0 (us:=[_,_,_,_,_]) Az J J ?_
 have sp_1:=Fe.new_spec th va vo lk pl ao n c A (hr) Ln Om hok
 refine qB J J J J J J Tryz.call29 (sp_1) Ts ?_
 rintro ⟨nb,nbp,nbc⟩ -
 try simp only [Ca,Na]
 refine qV (qK J J J J (kX J J J J J (kX J J J J J (qR J J J J (qR J J J J (qS (qW [1,4,5] (e':=[(1,_),(4,_),(5,_)]) J ?_)))))))
 refine qQ (qL (qL (qC (.q 0 (.q 1 (.done))) Kr ?_)))
 refine qK J J J J (qD J J J J J (b_neq _ _ _ _) ?_)
 refine kF 14 J (v':=.bool false) (by first | rfl | simp) ?_
 refine qS (qQ (kN J ?_))
 refine qH (qQ (qL (qC ((.l 0 [] ((.l 1 [] (.q 2 (.q 3 (.q 4 (.q 5 (.q 6 (.done)))))))))) Kr ?_)))
 refine kJ J J J J (cW (us:=[_]) υ'159 ζ'97 J Tryz.zeroValue97 J J J) ?_
 intro b17
 refine qV ?_
 have sp_2:=Vc.of_spec ([1]) (some ⟨b17,0,none⟩) 1 1 (cells b17 0 [.int .u64 1]) Ln (cJ cB) Om (by decide)
 refine qB J J J J J J Tryz.call30 (sp_2) Ts ?_
 rintro ⟨qb,qa,qc⟩ -
 try simp only [Ca,Na]
 refine qV (qK J J J J (kX J J J J J (kX J J J J J (qR J J J J (qR J J J J (qS ?_))))))
 rw [show tr [1]=[1] from by decide]
 refine qW [1,4,6] (e':=[(1,_),(4,_),(6,_)]) J ?_
 refine qQ (qL (qC (.q 0 (.q 1 (.q 2 ((.l 3 [] ((.l 4 [] (.q 5 ((.l 6 [] (.q 7 ((.l 8 [] ((.l 9 [] ((.l 10 [] (.q 11 ((.l 12 [] (.q 13 (.q 14 (.done))))))))))))))))))))))) Kr ?_))
 refine qK J J J J (qG (k:=4) J J J J υ'24 J ζ'22 J ?_)
 refine qP (j:=4) J J J J α'22 Tk Az (by rfl) ?_
 refine cL (fun _ h=>sY (sz:=1) (enc:=encZ) h) ?_
 refine cN (sz:=1) (enc:=encZ) (xs:=[]) J J J J J υ'22 τ'3 J J J (by decide) Tk Tk (by first | rfl | omega | (simp;done) | (simp;omega)) (ys:=pl) (hr) (by rfl) (by first | rfl | omega) (encZ_len) (encZ_one) Om (by show _*8≤_;omega) ?_
 intro ao24 cp24
 try simp only [Na]
 refine qV (rR Int (Option Addr) ekZ evA J J J ?_)
 intro m1
 refine qV (qK J J J J (sX (ek:=ekZ) (ev1:=evA) (F:=(noF:Int→Option (Option Addr))) (m:=m1) (k:=0) (v:=(some ⟨qb,0,none⟩:Option Addr)) (by first | exact .inl J | exact .inr J) J J J J υ'83 (cD υ'3) Tk ?_))
 refine qV (qK J J J J (rR Int (Option Addr) ekZ evA J J J ?_))
 intro m2
 refine qV (rR Int (Option Addr) ekZ evA J J J ?_)
 intro m3
 refine qV (rR (Int × Int) (Option Addr × Int) ek2 evH J J J ?_)
 intro m4
 refine qV (kB J J J J (vs:=[_,_,_,_,_,_]) (kQ υ'86 Tryz.zeroValue86 (ps:=[(0,1),(1,1),(2,1),(3,1),(4,1),(5,1)]) ⟨rfl,ζ'82,rfl,ζ'22,rfl,ζ'83,rfl,ζ'83,rfl,ζ'83,rfl,ζ'84,trivial⟩ rfl) ?_)
 refine sG J J J J (us:=[_,_,_,_,_,_]) J ?_
 intro b32
 refine qV (qR J J J J (qR J J J J (qS (qW [2,3] (e':=[(2,_),(3,_)]) J ?_))))
 refine qQ (qJ (s_vecF qb qa qc [1] Ts ?_))
 refine s_rest_new (res:=vecA) (noF:Int→Option (Option Addr)) (noF:Int→Option (List Int)) (fun _=>rfl) (fun _=>rfl) ?_
 refine s_rest_opt (F:=(noF:Int→Option (Option Addr))) (T:=(noF:Int→Option (List Int))) (S:=[]) (0:Int) Tk (by simp) fun _=>?_
 refine sQ (F:=(noF:Int→Option (Option Addr))) (T:=(noF:Int→Option (List Int))) (S:=[]) (0:Int) (upd noF 0 (some (some ⟨qb,0,none⟩))) (upd noF 0 (some [1])) Ts (by simp) sL (fun q h _=>sD h) sL (fun q h _=>sD h) ?_
 refine s_rest_new (res:=vecA) (noF:Int→Option (Option Addr)) (noF:Int→Option (List Int)) (fun _=>rfl) (fun _=>rfl) ?_
 refine s_rest_new (res:=vecA) (noF:Int→Option (Option Addr)) (noF:Int→Option (List Int)) (fun _=>rfl) (fun _=>rfl) ?_
 refine s_rest_new (res:=heldA) (noF:Int × Int→Option (Option Addr × Int)) (noF:Int × Int→Option (List Int × Int)) (fun _=>rfl) (fun _=>rfl) ?_
 refine vs_fold (b:=b32) (vNew th va vo lk pl) (pa:=nbp) (pc:=nbc) (po:=ao24) (poc:=cp24) (cb:=nb) (m1:=m1) (m2:=m2) (m3:=m3) (m4:=m4) Ts (by rfl) (by show 0+n=pl.length;omega) ?_
 refine ret2 J J J (((b32,nb,nbp,nbc),ao24,cp24)) (by first | rfl | (first | rfl | (congr 1;done) | (congr 1 <;> first | rfl | omega | (simp;done) | (simp;omega)))) (by trivial) ?_
 exact Tf
theorem beginbad_spec (th va vo lk:Int) (pl:List Int) (ao:Option Addr) (n c:Nat) (A:HProp) (hr:RdS A ao (pl.flatMap encZ)) (hn:pl.length=n) (hb:n≤4000000) (hok:¬ OkS th va vo lk pl):Spec Tryz.prog 16 [.agg #[.int .i64 th,.int .i64 va,.int .i64 vo,.int .i64 lk,.slice ao n c]] [A] (fun (_:Unit)=>.tuple #[.pointer none,.int .i64 5]) (fun _=>True) (fun _=>[A]):=by
 refine kS (n:=33) Tryz.func16 J J J ?_
 intro Γ w0
 simp only [argE,Ca,Na,Zd,Nat.reduceAdd]
 refine qL (qC ((.l 0 [] (.q 1 (.q 2 (.done))))) Kr ?_)
 refine sG J J J J (us:=[_,_,_,_,_]) J ?_
 intro b1
 refine qV (qR J J J J (qR J J J J (qS (qQ (qL (qC (.q 0 ((.l 1 [] (.q 2 (.q 3 (.q 4 (.q 5 (.q 6 (.done))))))))) Kr ?_))))))
 refine kC J J J J α'24 ζ'24 Tk 0 (us:=[_,_,_,_,_]) Az J J ?_
 have sp_2:=Fe.newbad_spec th va vo lk pl ao n c A (hr) Ln Om hok
 refine qB J J J J J J Tryz.call29 (sp_2) Ts ?_
 rintro ⟨⟩ -
 try simp only [Ca,Na]
 refine qV (qK J J J J (kX J J J J J (kX J J J J J (qR J J J J (qR J J J J (qS (qW [1,4,5] (e':=[(1,_),(4,_),(5,_)]) J ?_)))))))
 refine qQ (qL (qL (qC (.q 0 (.q 1 (.done))) Kr ?_)))
 refine qK J J J J (qD J J J J J (b_neq _ _ _ _) ?_)
 refine kF 14 J (v':=.bool true) (by first | rfl | simp) ?_
 refine qS (qQ (cC J ?_))
 refine qL (qC (.q 0 (.q 1 (.q 2 (.done)))) Kr ?_)
 refine qK J J J J (qR J J J J (qR J J J J (qS (qW [2,3] (e':=[(2,_),(3,_)]) J ?_))))
 refine qQ (qJ (qN (ret2 J J J (()) (by first | rfl | (first | rfl | (congr 1;done) | (congr 1 <;> first | rfl | omega | (simp;done) | (simp;omega)))) (by trivial) ?_)))
 exact Tf
end Go.Ab.Dj
set_option linter.unusedVariables false
set_option linter.unusedSimpArgs false
set_option maxRecDepth 100000
namespace Go.Ab.Rv
open Go Go.Proofs Go.Ab Go.Ab.Fe Go.Ab.Vc Go.Ab.Dj
theorem take_snoc {α:Type} {l:List α} {i:Nat} {a:α} (h:l[i]?=some a):l.take (i+1)=l.take i++[a]:=by rw [List.take_add_one,h];rfl
theorem tab_rep (n:Nat):tabF n noF=List.replicate n none:=by
  apply List.ext_getElem?
  intro q
  rcases Nat.lt_or_ge q n with h | h
  · rw [tab_get h,List.getElem?_replicate,if_pos h];rfl
  · rw [List.getElem?_eq_none (by rw [tab_len];exact h),List.getElem?_eq_none (by simpa using h)]
theorem s_optNF {w0:World} {ds:List Deferred} {n:Nat} {e:Env} {Γ:List HProp} {X:Act→World→Prop} (k:Le (St w0 ds n e (optR none none::Γ)) X):Le (St w0 ds n e Γ) X:=cL (fun h s=>sat_free (A:=optR none none) rfl s) k
theorem s_restL_rep {w0:World} {ds:List Deferred} {n:Nat} {e:Env} {Γ:List HProp} {X:Act→World→Prop}:∀ (m:Nat),Le (St w0 ds n e (restL optR (List.replicate m none) (List.replicate m none) []::Γ)) X→Le (St w0 ds n e Γ) X
  | 0,k=>s_restL_nil k
  | m+1,k=>s_restL_rep m (s_optNF (s_restL_push (V:=List.replicate m (none:Option Addr)) (Y:=List.replicate m (none:Option (List Int))) none none (Takes.cons Take.here (Takes.cons Take.here Takes.nil)) (by simp) (by
      rw [← List.replicate_succ',← List.replicate_succ'];exact k)))
theorem copyn:Spec Tryz.prog 82 [.pointer none] [] (fun (_:Unit)=>.pointer none) (fun _=>True) (fun _=>[]):=by
 refine kS (n:=13) Tryz.func82 J J J ?_
 intro Γ w0
 simp only [argE,Ca,Na,Zd,Nat.reduceAdd]
 refine qL (qC (.q 0 (.done)) Kr ?_)
 refine qR J J J J (qS (qQ (qL (qL (qC (.q 0 (.q 1 (.done))) Kr ?_)))))
 refine qK J J J J (cM J J J J υ'105 ?_)
 refine kF 4 J (v':=.bool true) J ?_
 refine qS (qQ (cC J ?_))
 refine qL (qC (.q 0 (.done)) Kr ?_)
 refine qR J J J J (qS (qQ (qJ (qN (cR J J (()) (by first | rfl | (first | rfl | (congr 1;done) | (congr 1 <;> first | rfl | omega | (simp;done) | (simp;omega)))) (by trivial) ?_)))))
 exact Tf
theorem copies_spec (V:List (Option Addr)) (Y:List (Option (List Int))) (ao:Option Addr) (n c:Nat) (hn:V.length=n) (hVY:Y.length=n) (hb:n≤4000000000000):Spec Tryz.prog 94 [.slice ao n c] [own 1 encA ao c V,restL optR V Y []] (fun (r:List (Option Addr) × Option Addr × Nat)=>.slice r.2.1 n r.2.2) (fun r=>r.1.length=n) (fun r=>[own 1 encA ao c V,restL optR V Y [],own 1 encA r.2.1 r.2.2 r.1,restL optR r.1 Y []]):=by
 refine kS (n:=20) Tryz.func94 J J J ?_
 intro Γ w0
 simp only [argE,Ca,Na,Zd,Nat.reduceAdd]
 refine qL (qC (.q 0 (.done)) Kr ?_)
 refine qR J J J J (qS (qQ (qL (qC (.q 0 (.done)) Kr ?_))))
 refine qR J J J J (qS (qQ (qL (qL (qC (.q 0 (.done)) Kr ?_)))))
 refine qR J J J J (qS (qQ (kV (cL (fun _ h=>sY (sz:=1) (enc:=encA) h) ?_))))
 refine s_restL_nil (res:=optR) ?_
 refine sS (α:=Nat × List (Option Addr) × Option Addr × Nat) (fun (x_:Nat × List (Option Addr) × Option Addr × Nat)=>match x_ with | (k,GV,ga,gc)=>k≤n∧(GV.length=k)) (fun (x_:Nat × List (Option Addr) × Option Addr × Nat)=>match x_ with | (k,GV,ga,gc)=>[(3,.slice ga k gc),(4,.int .i64 ((k:Nat):Int))]) (fun (x_:Nat × List (Option Addr) × Option Addr × Nat)=>match x_ with | (k,GV,ga,gc)=>[restL optR V Y [],restL optR GV (Y.take k) [],own 1 encA ga gc GV]) (fun (x_:Nat × List (Option Addr) × Option Addr × Nat)=>match x_ with | (k,GV,ga,gc)=>n - k) [0] (er:=[(0,_)]) J (0,[],none,0) ?_ (by exact ⟨rfl,rfl,trivial⟩) (by (try dsimp only);(try simp only [Ad,Zd]);(repeat ((with_reducible apply Z2);focus (first | (with_reducible (repeat (first | exact Z0 | apply Z1));done) | (repeat (first | exact Z0 | apply Z1)))));exact Z3) ?_
 · exact ⟨Nat.zero_le _,rfl⟩
 rintro ⟨k,GV,ga,gc⟩ ⟨hle_k,hGV⟩
 try simp only [Ca,Na]
 refine qL (qL (qC (.q 0 (.q 1 (.q 2 (.q 3 (.done))))) Kr ?_))
 refine qK J J J J (qK J J J J (sR J J J J υ'101 ?_))
 refine qD J J J J J (sK _ _ _ _) ?_
 refine qS (qQ ?_)
 refine qF J (fun hlt=>?_) (fun hlt=>?_)
 ·
  refine qH (qQ (qL (kV (qC (.q 0 (.q 1 (.q 2 (.q 3 (.q 4 ((.l 5 [] ((.l 6 [] ((.l 7 [] (.q 8 (.done))))))))))))) Kr ?_))))
  obtain ⟨y,hy⟩:=cX (l:=Y) (i:=k) Om
  refine rQ (res:=optR) (V:=V) (Y:=Y) (S:=[]) k Tk (by simp) hy fun ka hka=>?_
  rcases (show y=none∨∃ t,y=some t by cases y <;> simp) with rfl | ⟨t,rfl⟩
  ·
   refine optR_none (a:=ka) Tk fun hkb=>?_
   subst hkb
   refine qK J J J J (qK J J J J (qK J J J J (cK (sz:=0) (k:=k) (enc:=encA) (xs:=V) J J J J J υ'101 ζ'105 hka (by first | rfl | omega) Om Tk ?_)))
   intro ib14 io14 ha14 hl14 hc14
   refine cQ (v:=(.pointer none)) (j:=0) (k':=k) (enc:=encA) (off:=io14) J J J J α'105 ha14 encA_len hka Tk (by first | rfl | exact (Ad _).symm | omega) (by rfl) ?_
   have sp_1:=copyn
   refine qB J J J J J J κ'82 (sp_1) Ts ?_
   rintro ⟨⟩ -
   try simp only [Ca,Na]
   refine qV (kJ J J J J (cW (us:=[_]) υ'101 ζ'105 J Tryz.zeroValue105 J J J) ?_)
   intro b17
   refine qV (cN (sz:=1) (enc:=encA) (xs:=GV) J J J J J υ'101 τ'105 J J J (by decide) Tk Tk (by first | rfl | omega | (simp;done) | (simp;omega)) (ys:=[none]) (cJ cB) (by rfl) (by first | rfl | omega) (encA_len) (encA_one) Om (by show _*8≤_;omega) ?_)
   intro ao18 cp18
   refine qV (qR J J J J (qS (qW [0,3,4] (e':=[(0,_),(3,_),(4,_)]) J ?_)))
   refine kG (qQ (qC (.q 0 (.q 1 (.q 2 (.done)))) Kr ?_))
   refine qK J J J J (qD J J J J J (cF _ (by exact kY Om Om)) ?_)
   refine qR J J J J (qS (qQ (rX (res:=optR) (V:=V) (Y:=Y) (S:=[]) k Ts (by simp) hka hy ?_)))
   refine s_optNF ?_
   refine s_restL_push (res:=optR) (V:=GV) (Y:=Y.take k) none none Ts (by rw [List.length_take];omega) ?_
   rw [← take_snoc hy]
   refine kZ (x:=(k,GV,ga,gc)) ((k+1,GV++[none],ao18,cp18)) ?_ ?_ ?_ ?_
   · try dsimp only
     exact ⟨by omega,by simp [hGV]⟩
   · show n - (k+1) < n - k;omega
   · exact ⟨rfl,rfl,rfl,trivial⟩
   · (try simp only [Ca,Na]);exact Tf
  refine optR_some (a:=ka) (t:=t) Tk fun kb hkb=>?_
  subst hkb
  refine qK J J J J (qK J J J J (qK J J J J (cK (sz:=0) (k:=k) (enc:=encA) (xs:=V) J J J J J υ'101 ζ'105 hka (by first | rfl | omega) Om Tk ?_)))
  intro ib14 io14 ha14 hl14 hc14
  refine cQ (v:=(.pointer (some ⟨kb,0,none⟩))) (j:=0) (k':=k) (enc:=encA) (off:=io14) J J J J α'105 ha14 encA_len hka Tk (by first | rfl | exact (Ad _).symm | omega) (by rfl) ?_
  have sp_2:=Rv.copy_spec kb t
  refine qB J J J J J J κ'82 (sp_2) Ts ?_
  rintro qb -
  try simp only [Ca,Na]
  refine qV (kJ J J J J (cW (us:=[_]) υ'101 ζ'105 J Tryz.zeroValue105 J J J) ?_)
  intro b17
  refine qV (cN (sz:=1) (enc:=encA) (xs:=GV) J J J J J υ'101 τ'105 J J J (by decide) Tk Tk (by first | rfl | omega | (simp;done) | (simp;omega)) (ys:=[(some ⟨qb,0,none⟩:Option Addr)]) (cJ cB) (by rfl) (by first | rfl | omega) (encA_len) (encA_one) Om (by show _*8≤_;omega) ?_)
  intro ao18 cp18
  refine qV (qR J J J J (qS (qW [0,3,4] (e':=[(0,_),(3,_),(4,_)]) J ?_)))
  refine kG (qQ (qC (.q 0 (.q 1 (.q 2 (.done)))) Kr ?_))
  refine qK J J J J (qD J J J J J (cF _ (by exact kY Om Om)) ?_)
  refine qR J J J J (qS (qQ (optR_someF (b:=kb) (t:=t) Td ?_)))
  refine rX (res:=optR) (V:=V) (Y:=Y) (S:=[]) k Ts (by simp) hka hy ?_
  refine optR_someF (b:=qb) (t:=t) Td ?_
  refine s_restL_push (res:=optR) (V:=GV) (Y:=Y.take k) (some ⟨qb,0,none⟩) (some t) Ts (by rw [List.length_take];omega) ?_
  rw [← take_snoc hy]
  refine kZ (x:=(k,GV,ga,gc)) ((k+1,GV++[(some ⟨qb,0,none⟩)],ao18,cp18)) ?_ ?_ ?_ ?_
  · try dsimp only
    exact ⟨by omega,by simp [hGV]⟩
  · show n - (k+1) < n - k;omega
  · exact ⟨rfl,rfl,rfl,trivial⟩
  · (try simp only [Ca,Na]);exact Tf
 refine cS (qY (qY (kK (qQ (qL (qC (.q 0 (.q 1 (.done))) Kr ?_))))))
 refine qK J J J J (qR J J J J (qS (qW [2] (e':=[(2,_)]) J ?_)))
 refine qQ (qJ ?_)
 obtain rfl:k=n:=by omega
 rw [show Y.take k=Y from List.take_of_length_le Om]
 refine cR J J ((GV,ga,gc)) (by first | rfl | (first | rfl | (congr 1;done) | (congr 1 <;> first | rfl | omega | (simp;done) | (simp;omega)))) (by exact hGV) ?_
 exact Tf
theorem vcopy_spec (pa:Option Addr) (pc b:Nat) (x:VS) (hx:VInv x) (hn:x.ck.n≤4000000000000):Spec Tryz.prog 43 [.pointer (some ⟨b,0,none⟩)] [rvR pa pc b x] (fun (r:Nat)=>.pointer (some ⟨r,0,none⟩)) (fun r=>True) (fun r=>[rvR pa pc b x,rvR pa pc r x]):=by
 refine kS (n:=72) Tryz.func43 J J J ?_
 intro Γ w0
 simp only [argE,Ca,Na,Zd,Nat.reduceAdd]
 refine qL (qC (.q 0 (.done)) Kr ?_)
 refine qR J J J J (qS (qQ (qL (rv_open (pa:=pa) (pc:=pc) (b:=b) (x:=x) Tk fun cb Ta Tc La Lc Oa Oc Ra Rc VT VL VO VR YR hVT hVL hVO hVR hK=>?_))))
 have hsh:=hx.ck.sh
 have hs1:=hsh.th
 have hs2:=hsh.lk
 have hs3:=hsh.vo
 have hkl:=hK.Rl
 refine kM J (.q 0 (.q 1 (.q 2 (.q 3 (.q 5 (.q 6 (.q 7 (.q 8 (.q 10 (.q 11 (.q 12 (.q 13 (.q 15 (.q 16 (.q 17 (.q 18 ((.l 4 [8,13,18] ((.l 9 [13,18] ((.l 14 [18] ((.l 19 [] (.q 20 ((.l 21 [] (.q 22 (.done))))))))))))))))))))))))))))) Kr ?_
 refine qK J J J J (qZ J J J J (qG (k:=0) J J J J υ'104 J ζ'98 J ?_))
 refine qP (j:=0) J J J J α'98 Tk Az (by rfl) ?_
 refine qK J J J J (qZ J J J J (qG (k:=1) J J J J υ'104 J ζ'101 J ?_))
 refine qP (j:=1) J J J J α'101 Tk Az (by rfl) ?_
 refine qK J J J J (qZ J J J J (qG (k:=2) J J J J υ'104 J ζ'101 J ?_))
 refine qP (j:=2) J J J J α'101 Tk Az (by rfl) ?_
 refine qK J J J J (qZ J J J J (qG (k:=3) J J J J υ'104 J ζ'101 J ?_))
 refine qP (j:=3) J J J J α'101 Tk Az (by rfl) ?_
 have sp_1:=Fe.rcopy_spec pa pc cb x.ck hx.ck
 refine qB J J J J J J Tryz.call93 (sp_1) Ts ?_
 rintro cq -
 try simp only [Ca,Na]
 refine qM (q:=1) J J J α'101 Tk Az (by rfl) ?_
 refine qM (q:=2) J J J α'101 Tk Az (by rfl) ?_
 refine qM (q:=3) J J J α'101 Tk Az (by rfl) ?_
 refine qV ?_
 have sp_2:=copies_spec VT (tabF x.ck.th.toNat x.th) Ta VT.length Tc Ln (by rw [tab_len];omega) Om
 refine qB J J J J J J Tryz.call94 (sp_2) Ts ?_
 rintro ⟨tqV,tqa,tqc⟩ htqV
 simp only at htqV
 try simp only [Ca,Na]
 refine qM (q:=2) J J J α'101 Tk Az (by rfl) ?_
 refine qM (q:=3) J J J α'101 Tk Az (by rfl) ?_
 refine qV ?_
 have sp_3:=copies_spec VL (tabF x.ck.lk.toNat x.lk) La VL.length Lc Ln (by rw [tab_len];omega) Om
 refine qB J J J J J J Tryz.call94 (sp_3) Ts ?_
 rintro ⟨lqV,lqa,lqc⟩ hlqV
 simp only at hlqV
 try simp only [Ca,Na]
 refine qM (q:=3) J J J α'101 Tk Az (by rfl) ?_
 refine qV ?_
 have sp_4:=copies_spec VO (tabF x.ck.vo.toNat x.vo) Oa VO.length Oc Ln (by rw [tab_len];omega) Om
 refine qB J J J J J J Tryz.call94 (sp_4) Ts ?_
 rintro ⟨oqV,oqa,oqc⟩ hoqV
 simp only at hoqV
 try simp only [Ca,Na]
 refine qV (kB J J J J (vs:=[_,_,_,_,_]) (kQ υ'104 ω'104 (ps:=[(0,1),(1,1),(2,1),(3,1),(4,1)]) ⟨rfl,ζ'98,rfl,ζ'101,rfl,ζ'101,rfl,ζ'101,rfl,ζ'102,trivial⟩ rfl) ?_)
 refine sG J J J J (us:=[_,_,_,_,_]) J ?_
 intro b26
 refine qV (qR J J J J (qS (qW [0,3] (e':=[(0,_),(3,_)]) J ?_)))
 refine qQ (qL (qL (qC (.q 0 (.done)) Kr ?_)))
 refine qR J J J J (qS (qQ (kV (s_restL_nil (res:=krA) ?_))))
 refine cL (fun _ h=>sY (sz:=3) (enc:=encK) h) ?_
 refine sS (α:=Nat × List KP × Option Addr × Nat) (fun (x_:Nat × List KP × Option Addr × Nat)=>match x_ with | (k,GR,ga,gc)=>k≤VR.length∧(GR.length=k)) (fun (x_:Nat × List KP × Option Addr × Nat)=>match x_ with | (k,GR,ga,gc)=>[(4,.int .i64 ((k:Nat):Int))]) (fun (x_:Nat × List KP × Option Addr × Nat)=>match x_ with | (k,GR,ga,gc)=>[restL krA VR YR [],restL krA GR (YR.take k) [],cells b26 0 [.pointer (some ⟨cq,0,none⟩),.slice tqa VT.length tqc,.slice lqa VL.length lqc,.slice oqa VO.length oqc,.slice ga k gc],own 1 encA tqa tqc tqV,own 1 encA lqa lqc lqV,own 1 encA oqa oqc oqV,own 3 encK ga gc GR]) (fun (x_:Nat × List KP × Option Addr × Nat)=>match x_ with | (k,GR,ga,gc)=>VR.length - k) [0,3] (er:=[(0,_),(3,_)]) J (0,[],none,0) ?_ (by exact ⟨rfl,trivial⟩) (by (try dsimp only);(try simp only [Ad,Zd]);(repeat ((with_reducible apply Z2);focus (first | (with_reducible (repeat (first | exact Z0 | apply Z1));done) | (repeat (first | exact Z0 | apply Z1)))));exact Z3) ?_
 · exact ⟨Nat.zero_le _,rfl⟩
 rintro ⟨k,GR,ga,gc⟩ ⟨hle_k,hGR⟩
 try simp only [Ca,Na]
 refine qL (qL (qC (.q 0 (.q 1 (.q 2 (.q 3 (.q 4 (.q 5 (.q 6 (.done)))))))) Kr ?_))
 refine qK J J J J (qK J J J J (qZ J J J J (qG (k:=4) J J J J υ'104 J ζ'102 J ?_)))
 refine qP (j:=4) J J J J α'102 Tk Az (by rfl) ?_
 refine sR J J J J υ'102 ?_
 refine qD J J J J J (sK _ _ _ _) ?_
 refine qS (qW [0,3,4,33] (e':=[(0,_),(3,_),(4,_),(33,_)]) J ?_)
 refine qQ ?_
 refine qF J (fun hlt=>?_) (fun hlt=>?_)
 ·
  refine qH (qQ (qL (kV ?_)))
  obtain ⟨yq,hyq⟩:=cX (l:=YR) (i:=k) Om
  refine rQ (res:=krA) (V:=VR) (Y:=YR) (S:=[]) k Tk (by simp) hyq fun v hvr=>?_
  refine s_kr Tk fun rb hrb=>?_
  subst hrb
  refine kM J (.q 0 (.q 1 (.q 2 (.q 3 (.q 4 (.q 5 (.q 6 (.q 7 (.q 8 (.q 9 (.q 10 (.q 11 (.q 12 (.q 13 (.q 14 (.q 15 (.q 16 (.q 17 (.q 18 (.q 19 (.q 20 (.q 21 (.q 22 (.q 23 (.q 24 (.q 25 (.q 26 (.q 27 (.q 28 ((.l 29 [4,8,12,16,20] (.q 30 ((.l 31 [4] ((.l 32 [] (.q 33 (.q 34 ((.l 35 [] (.done))))))))))))))))))))))))))))))))))))))))) Kr ?_
  refine qK J J J J (qK J J J J (qZ J J J J (qG (k:=4) J J J J υ'104 J ζ'102 J ?_)))
  refine qP (j:=4) J J J J α'102 Tk Az (by rfl) ?_
  refine qK J J J J (qZ J J J J (qG (k:=4) J J J J υ'104 J ζ'102 J ?_))
  refine qP (j:=4) J J J J α'102 Tk Az (by rfl) ?_
  refine qK J J J J (cK (sz:=2) (k:=k) (enc:=encK) (xs:=VR) J J J J J υ'102 ζ'180 hvr (by first | rfl | omega) Om Tk ?_)
  intro ib46 io46 ha46 hl46 hc46
  refine qG (k:=0) J J J J υ'180 J ζ'3 J ?_
  refine cQ (v:=(.int .i64 yq.1)) (j:=0) (k':=k) (enc:=encK) (off:=io46) J J J J α'3 ha46 encK_len hvr Tk (by first | rfl | exact (Ad _).symm | omega) (by rfl) ?_
  refine qK J J J J (qZ J J J J (qG (k:=4) J J J J υ'104 J ζ'102 J ?_))
  refine qP (j:=4) J J J J α'102 Tk Az (by rfl) ?_
  refine qK J J J J (cK (sz:=2) (k:=k) (enc:=encK) (xs:=VR) J J J J J υ'102 ζ'180 hvr (by first | rfl | omega) Om Tk ?_)
  intro ib54 io54 ha54 hl54 hc54
  refine qG (k:=1) J J J J υ'180 J ζ'3 J ?_
  refine cQ (v:=(.int .i64 yq.2.1)) (j:=1) (k':=k) (enc:=encK) (off:=io54) J J J J α'3 ha54 encK_len hvr Tk (by first | rfl | exact (Ad _).symm | omega) (by rfl) ?_
  refine qK J J J J (qZ J J J J (qG (k:=4) J J J J υ'104 J ζ'102 J ?_))
  refine qP (j:=4) J J J J α'102 Tk Az (by rfl) ?_
  refine qK J J J J (cK (sz:=2) (k:=k) (enc:=encK) (xs:=VR) J J J J J υ'102 ζ'180 hvr (by first | rfl | omega) Om Tk ?_)
  intro ib62 io62 ha62 hl62 hc62
  refine qG (k:=2) J J J J υ'180 J ζ'105 J ?_
  refine cQ (v:=(.pointer (some ⟨rb,0,none⟩))) (j:=2) (k':=k) (enc:=encK) (off:=io62) J J J J α'105 ha62 encK_len hvr Tk (by first | rfl | exact (Ad _).symm | omega) (by rfl) ?_
  have sp_5:=Rv.copy_spec rb yq.2.2
  refine qB J J J J J J κ'82 (sp_5) Ts ?_
  rintro qb -
  try simp only [Ca,Na]
  refine qM (q:=4) J J J α'102 Tk Az (by rfl) ?_
  refine qM (q:=4) J J J α'102 Tk Az (by rfl) ?_
  refine ag_load_O (v:=(.int .i64 yq.1)) (j:=0) (k':=k) (enc:=encK) (off:=io46) J J J α'3 ha46 encK_len hvr Tk (by first | rfl | exact (Ad _).symm | omega) (by rfl) ?_
  refine qM (q:=4) J J J α'102 Tk Az (by rfl) ?_
  refine ag_load_O (v:=(.int .i64 yq.2.1)) (j:=1) (k':=k) (enc:=encK) (off:=io54) J J J α'3 ha54 encK_len hvr Tk (by first | rfl | exact (Ad _).symm | omega) (by rfl) ?_
  refine qV (kB J J J J (vs:=[_,_,_]) (kQ υ'180 ω'180 (ps:=[(0,1),(1,1),(2,1)]) ⟨rfl,ζ'3,rfl,ζ'3,rfl,ζ'105,trivial⟩ rfl) ?_)
  refine kJ J J J J (cW (us:=[_,_,_]) υ'102 ζ'180 J ω'180 J J J) ?_
  intro b67
  refine qM (q:=4) J J J α'102 Tk Az (by rfl) ?_
  refine qV (cN (sz:=3) (enc:=encK) (xs:=GR) J J J J J υ'102 Tryz.typeInfo180 J J J (by decide) Tk Tk (by first | rfl | omega | (simp;done) | (simp;omega)) (ys:=[((yq.1,yq.2.1,some ⟨qb,0,none⟩):KP)]) (cJ cB) (by rfl) (by first | rfl | omega) (encK_len) (encK_one) Om (by show _*24≤_;omega) ?_)
  intro ao68 cp68
  refine kF 68 J (v':=.slice ao68 (k+1) cp68) (by first | rfl | (congr 1;done) | (congr 1 <;> first | rfl | omega | (simp;done) | (simp;omega))) ?_
  refine qV (qZ J J J J (qG (k:=4) J J J J υ'104 J ζ'102 J ?_))
  refine kR (j:=4) J J J J ζ'102 (us:=[_]) J J J Tk Az (by first | decide | (simp;done) | omega) ?_
  simp only [setL,List.set]
  refine qV (qS (qW [0,3,4] (e':=[(0,_),(3,_),(4,_)]) J ?_))
  refine kG (qQ (qC (.q 0 (.q 1 (.q 2 (.done)))) Kr ?_))
  refine qK J J J J (qD J J J J J (cF _ (by exact kY Om Om)) ?_)
  refine qR J J J J (qS (qQ (s_krF rb yq Td ?_)))
  refine rX (res:=krA) (V:=VR) (Y:=YR) (S:=[]) k Ts (by simp) hvr hyq ?_
  refine s_krF qb yq Td ?_
  refine s_restL_push (res:=krA) (V:=GR) (Y:=YR.take k) ((yq.1,yq.2.1,some ⟨qb,0,none⟩):KP) yq Ts (by rw [List.length_take];omega) ?_
  rw [← take_snoc hyq]
  refine kZ (x:=(k,GR,ga,gc)) ((k+1,GR++[((yq.1,yq.2.1,some ⟨qb,0,none⟩):KP)],ao68,cp68)) ?_ ?_ ?_ ?_
  · try dsimp only
    exact ⟨by omega,by simp [hGR]⟩
  · show VR.length - (k+1) < VR.length - k;omega
  · exact ⟨rfl,rfl,rfl,trivial⟩
  · (try simp only [Ca,Na]);exact Tf
 refine cS (qY (qY (kK (qQ (qL (qC (.q 0 (.q 1 (.done))) Kr ?_))))))
 refine qK J J J J (qR J J J J (qS (qW [2] (e':=[(2,_)]) J ?_)))
 refine qQ (qJ ?_)
 obtain rfl:k=VR.length:=by omega
 rw [show YR.take VR.length=YR from List.take_of_length_le Om]
 refine rv_fold (b:=b) x (pa:=pa) (pc:=pc) (cb:=cb) (Ta:=Ta) (Tc:=Tc) (La:=La) (Lc:=Lc) (Oa:=Oa) (Oc:=Oc) (Ra:=Ra) (Rc:=Rc) (VT:=VT) (VL:=VL) (VO:=VO) (VR:=VR) (YR:=YR) Ts (by first | rfl | simp) (by first | rfl | simp) (by first | rfl | simp) (by first | rfl | simp) J J J J hVT hVL hVO hVR hK ?_
 refine rv_fold (b:=b26) x (pa:=pa) (pc:=pc) (cb:=cq) (Ta:=tqa) (Tc:=tqc) (La:=lqa) (Lc:=lqc) (Oa:=oqa) (Oc:=oqc) (Ra:=ga) (Rc:=gc) (VT:=tqV) (VL:=lqV) (VO:=oqV) (VR:=GR) (YR:=YR) Ts (by first | rfl | exact htqV.symm | exact hlqV.symm | exact hoqV.symm | omega) (by first | rfl | exact htqV.symm | exact hlqV.symm | exact hoqV.symm | omega) (by first | rfl | exact htqV.symm | exact hlqV.symm | exact hoqV.symm | omega) (by first | rfl | exact htqV.symm | exact hlqV.symm | exact hoqV.symm | omega) J J J J (htqV.trans hVT) (hlqV.trans hVL) (hoqV.trans hVO) Om hK ?_
 refine cR J J (b26) (by first | rfl | (first | rfl | (congr 1;done) | (congr 1 <;> first | rfl | omega | (simp;done) | (simp;omega)))) (by trivial) ?_
 exact Tf
theorem begin_spec (th va vo lk:Int) (pl:List Int) (ao:Option Addr) (n c:Nat) (A:HProp) (hr:RdS A ao (pl.flatMap encZ)) (hn:pl.length=n) (hb:n≤4000000) (hok:OkS th va vo lk pl):Spec Tryz.prog 17 [.agg #[.int .i64 th,.int .i64 va,.int .i64 vo,.int .i64 lk,.slice ao n c]] [A] (fun (r:Nat × Option Addr × Nat)=>.tuple #[.pointer (some ⟨r.1,0,none⟩),.int .i64 0]) (fun r=>True) (fun r=>[A,own 1 encZ r.2.1 r.2.2 pl,rvR r.2.1 r.2.2 r.1 (vNew th va vo lk pl)]):=by
 refine kS (n:=41) Tryz.func17 J J J ?_
 intro Γ w0
 simp only [argE,Ca,Na,Zd,Nat.reduceAdd]
 refine qL (qC ((.l 0 [] (.q 1 (.q 2 (.done))))) Kr ?_)
 refine sG J J J J (us:=[_,_,_,_,_]) J ?_
 intro b1
 refine qV (qR J J J J (qR J J J J (qS (qQ (qL (qC (.q 0 ((.l 1 [] (.q 2 (.q 3 (.q 4 (.q 5 (.q 6 (.done))))))))) Kr ?_))))))
 refine kC J J J J α'24 ζ'24 Tk 0 (us:=[_,_,_,_,_]) Az J J ?_
 have sp_1:=Fe.rnew_spec th va vo lk pl ao n c A (hr) Ln Om hok
 refine qB J J J J J J Tryz.call31 (sp_1) Ts ?_
 rintro ⟨nq,nqp,nqc⟩ -
 try simp only [Ca,Na]
 refine qV (qK J J J J (kX J J J J J (kX J J J J J (qR J J J J (qR J J J J (qS (qW [1,4,5] (e':=[(1,_),(4,_),(5,_)]) J ?_)))))))
 refine qQ (qL (qL ?_))
 have hth:=hok.th;have hva:=hok.va;have hvo:=hok.vo;have hlk:=hok.lk
 obtain ⟨tn,htn⟩:∃ q:Nat,th=(q:Int):=⟨th.toNat,by omega⟩
 obtain ⟨vn,hvn⟩:∃ q:Nat,va=(q:Int):=⟨va.toNat,by omega⟩
 obtain ⟨on,hon⟩:∃ q:Nat,vo=(q:Int):=⟨vo.toNat,by omega⟩
 obtain ⟨ln,hln⟩:∃ q:Nat,lk=(q:Int):=⟨lk.toNat,by omega⟩
 refine cP (A:=cells b1 0 [.int .i64 th,.int .i64 va,.int .i64 vo,.int .i64 lk,.slice ao n c]) Tk ?_
 refine cL (Γ':=cells b1 0 [.int .i64 ((tn:Nat):Int),.int .i64 ((vn:Nat):Int),.int .i64 ((on:Nat):Int),.int .i64 ((ln:Nat):Int),.slice ao n c]::_) (fun _ h=>(by rw [← htn,← hvn,← hon,← hln];exact h)) ?_
 refine qC (.q 0 (.q 1 (.done))) Kr ?_
 refine qK J J J J (qD J J J J J (b_neq _ _ _ _) ?_)
 refine kF 13 J (v':=.bool false) (by first | rfl | simp) ?_
 refine qS (qQ (kN J ?_))
 refine qH (qQ ?_)
 refine c_seqJ (α:=Nat × Nat × Nat × Nat) (fun (x_:Nat × Nat × Nat × Nat)=>match x_ with | (d,v1,v2,v3)=>True) (fun (x_:Nat × Nat × Nat × Nat)=>match x_ with | (d,v1,v2,v3)=>[(6,.pointer (some ⟨d,0,none⟩))]) (fun (x_:Nat × Nat × Nat × Nat)=>match x_ with | (d,v1,v2,v3)=>[cells d 0 [.pointer (some ⟨nq,0,none⟩),.slice (some ⟨v1,0,none⟩) tn tn,.slice (some ⟨v2,0,none⟩) ln ln,.slice (some ⟨v3,0,none⟩) on on,.slice none 0 0],own 1 encA (some ⟨v1,0,none⟩) tn (List.replicate tn (none:Option Addr)),own 1 encA (some ⟨v2,0,none⟩) ln (List.replicate ln (none:Option Addr)),own 1 encA (some ⟨v3,0,none⟩) on (List.replicate on (none:Option Addr))]) [] (er:=[]) J [] Ts ?_ ?_
 ·
  refine kM J (.q 0 (.q 1 (.q 2 (.q 4 (.q 5 (.q 7 (.q 8 ((.alt (.l 3 [5,8] ((.alt (.l 6 [8] ((.l 9 [] (.q 10 ((.l 11 [] (.q 12 (.done)))))))) (.l 9 [5] ((.l 6 [] (.q 10 ((.l 11 [] (.q 12 (.done))))))))))) (.alt (.l 6 [2,8] ((.alt (.l 3 [8] ((.l 9 [] (.q 10 ((.l 11 [] (.q 12 (.done)))))))) (.l 9 [2] ((.l 3 [] (.q 10 ((.l 11 [] (.q 12 (.done))))))))))) (.l 9 [2,5] ((.alt (.l 3 [5] ((.l 6 [] (.q 10 ((.l 11 [] (.q 12 (.done)))))))) (.l 6 [2] ((.l 3 [] (.q 10 ((.l 11 [] (.q 12 (.done))))))))))))))))))))) Kr ?_
  refine qK J J J J (qG (k:=0) J J J J υ'24 J ζ'3 J ?_)
  refine qP (j:=0) J J J J α'3 Tk Az (by rfl) ?_
  refine qG (k:=3) J J J J υ'24 J ζ'3 J ?_
  refine qP (j:=3) J J J J α'3 Tk Az (by rfl) ?_
  refine qG (k:=2) J J J J υ'24 J ζ'3 J ?_
  refine qP (j:=2) J J J J α'3 Tk Az (by rfl) ?_
  refine rV ?_ ?_
  ·
   refine l_make (sz:=1) (enc:=encA) (len:=tn) (cap:=tn) ((none:Option Addr)) J J J J J (by first | rfl | omega) (by first | rfl | omega) υ'101 τ'105 J J J (by decide) Om Om (by show 8*_≤_;omega) (by rfl) (encA_len) ?_
   intro b18
   refine qM (q:=3) J J J α'3 Tk Az (by rfl) ?_
   refine qM (q:=2) J J J α'3 Tk Az (by rfl) ?_
   refine qV ?_
   refine rV ?_ ?_
   ·
    refine l_make (sz:=1) (enc:=encA) (len:=ln) (cap:=ln) ((none:Option Addr)) J J J J J (by first | rfl | omega) (by first | rfl | omega) υ'101 τ'105 J J J (by decide) Om Om (by show 8*_≤_;omega) (by rfl) (encA_len) ?_
    intro b21
    refine qM (q:=2) J J J α'3 Tk Az (by rfl) ?_
    refine qV (l_make (sz:=1) (enc:=encA) (len:=on) (cap:=on) ((none:Option Addr)) J J J J J (by first | rfl | omega) (by first | rfl | omega) υ'101 τ'105 J J J (by decide) Om Om (by show 8*_≤_;omega) (by rfl) (encA_len) ?_)
    intro b24
    refine qV (kB J J J J (vs:=[_,_,_,_,_]) (kQ υ'104 ω'104 (ps:=[(0,1),(1,1),(2,1),(3,1),(4,1)]) ⟨rfl,ζ'98,rfl,ζ'101,rfl,ζ'101,rfl,ζ'101,rfl,ζ'102,trivial⟩ rfl) ?_)
    refine sG J J J J (us:=[_,_,_,_,_]) J ?_
    intro b26
    refine qV (qR J J J J (qS (qW [6] (e':=[(6,_)]) J ?_)))
    refine qQ ?_
    refine join_next ((b26,b18,b21,b24)) (by trivial) (by exact ⟨rfl,trivial⟩) (by (try simp only [Ca,Na]);(repeat ((with_reducible apply Z2);focus (first | (with_reducible (repeat (first | exact Z0 | apply Z1));done) | (repeat (first | exact Z0 | apply Z1)))));(repeat (first | exact Z3 | exact Takes.self | refine takes_drop2 ?_)))
   refine l_make (sz:=1) (enc:=encA) (len:=on) (cap:=on) ((none:Option Addr)) J J J J J (by first | rfl | omega) (by first | rfl | omega) υ'101 τ'105 J J J (by decide) Om Om (by show 8*_≤_;omega) (by rfl) (encA_len) ?_
   intro b24
   refine qM (q:=3) J J J α'3 Tk Az (by rfl) ?_
   refine qV (l_make (sz:=1) (enc:=encA) (len:=ln) (cap:=ln) ((none:Option Addr)) J J J J J (by first | rfl | omega) (by first | rfl | omega) υ'101 τ'105 J J J (by decide) Om Om (by show 8*_≤_;omega) (by rfl) (encA_len) ?_)
   intro b21
   refine qV (kB J J J J (vs:=[_,_,_,_,_]) (kQ υ'104 ω'104 (ps:=[(0,1),(1,1),(2,1),(3,1),(4,1)]) ⟨rfl,ζ'98,rfl,ζ'101,rfl,ζ'101,rfl,ζ'101,rfl,ζ'102,trivial⟩ rfl) ?_)
   refine sG J J J J (us:=[_,_,_,_,_]) J ?_
   intro b26
   refine qV (qR J J J J (qS (qW [6] (e':=[(6,_)]) J ?_)))
   refine qQ ?_
   refine join_next ((b26,b18,b21,b24)) (by trivial) (by exact ⟨rfl,trivial⟩) (by (try simp only [Ca,Na]);(repeat ((with_reducible apply Z2);focus (first | (with_reducible (repeat (first | exact Z0 | apply Z1));done) | (repeat (first | exact Z0 | apply Z1)))));(repeat (first | exact Z3 | exact Takes.self | refine takes_drop2 ?_)))
  refine rV ?_ ?_
  ·
   refine l_make (sz:=1) (enc:=encA) (len:=ln) (cap:=ln) ((none:Option Addr)) J J J J J (by first | rfl | omega) (by first | rfl | omega) υ'101 τ'105 J J J (by decide) Om Om (by show 8*_≤_;omega) (by rfl) (encA_len) ?_
   intro b21
   refine qM (q:=0) J J J α'3 Tk Az (by rfl) ?_
   refine qM (q:=2) J J J α'3 Tk Az (by rfl) ?_
   refine qV ?_
   refine rV ?_ ?_
   ·
    refine l_make (sz:=1) (enc:=encA) (len:=tn) (cap:=tn) ((none:Option Addr)) J J J J J (by first | rfl | omega) (by first | rfl | omega) υ'101 τ'105 J J J (by decide) Om Om (by show 8*_≤_;omega) (by rfl) (encA_len) ?_
    intro b18
    refine qM (q:=2) J J J α'3 Tk Az (by rfl) ?_
    refine qV (l_make (sz:=1) (enc:=encA) (len:=on) (cap:=on) ((none:Option Addr)) J J J J J (by first | rfl | omega) (by first | rfl | omega) υ'101 τ'105 J J J (by decide) Om Om (by show 8*_≤_;omega) (by rfl) (encA_len) ?_)
    intro b24
    refine qV (kB J J J J (vs:=[_,_,_,_,_]) (kQ υ'104 ω'104 (ps:=[(0,1),(1,1),(2,1),(3,1),(4,1)]) ⟨rfl,ζ'98,rfl,ζ'101,rfl,ζ'101,rfl,ζ'101,rfl,ζ'102,trivial⟩ rfl) ?_)
    refine sG J J J J (us:=[_,_,_,_,_]) J ?_
    intro b26
    refine qV (qR J J J J (qS (qW [6] (e':=[(6,_)]) J ?_)))
    refine qQ ?_
    refine join_next ((b26,b18,b21,b24)) (by trivial) (by exact ⟨rfl,trivial⟩) (by (try simp only [Ca,Na]);(repeat ((with_reducible apply Z2);focus (first | (with_reducible (repeat (first | exact Z0 | apply Z1));done) | (repeat (first | exact Z0 | apply Z1)))));(repeat (first | exact Z3 | exact Takes.self | refine takes_drop2 ?_)))
   refine l_make (sz:=1) (enc:=encA) (len:=on) (cap:=on) ((none:Option Addr)) J J J J J (by first | rfl | omega) (by first | rfl | omega) υ'101 τ'105 J J J (by decide) Om Om (by show 8*_≤_;omega) (by rfl) (encA_len) ?_
   intro b24
   refine qM (q:=0) J J J α'3 Tk Az (by rfl) ?_
   refine qV (l_make (sz:=1) (enc:=encA) (len:=tn) (cap:=tn) ((none:Option Addr)) J J J J J (by first | rfl | omega) (by first | rfl | omega) υ'101 τ'105 J J J (by decide) Om Om (by show 8*_≤_;omega) (by rfl) (encA_len) ?_)
   intro b18
   refine qV (kB J J J J (vs:=[_,_,_,_,_]) (kQ υ'104 ω'104 (ps:=[(0,1),(1,1),(2,1),(3,1),(4,1)]) ⟨rfl,ζ'98,rfl,ζ'101,rfl,ζ'101,rfl,ζ'101,rfl,ζ'102,trivial⟩ rfl) ?_)
   refine sG J J J J (us:=[_,_,_,_,_]) J ?_
   intro b26
   refine qV (qR J J J J (qS (qW [6] (e':=[(6,_)]) J ?_)))
   refine qQ ?_
   refine join_next ((b26,b18,b21,b24)) (by trivial) (by exact ⟨rfl,trivial⟩) (by (try simp only [Ca,Na]);(repeat ((with_reducible apply Z2);focus (first | (with_reducible (repeat (first | exact Z0 | apply Z1));done) | (repeat (first | exact Z0 | apply Z1)))));(repeat (first | exact Z3 | exact Takes.self | refine takes_drop2 ?_)))
  refine l_make (sz:=1) (enc:=encA) (len:=on) (cap:=on) ((none:Option Addr)) J J J J J (by first | rfl | omega) (by first | rfl | omega) υ'101 τ'105 J J J (by decide) Om Om (by show 8*_≤_;omega) (by rfl) (encA_len) ?_
  intro b24
  refine qM (q:=0) J J J α'3 Tk Az (by rfl) ?_
  refine qM (q:=3) J J J α'3 Tk Az (by rfl) ?_
  refine qV ?_
  refine rV ?_ ?_
  ·
   refine l_make (sz:=1) (enc:=encA) (len:=tn) (cap:=tn) ((none:Option Addr)) J J J J J (by first | rfl | omega) (by first | rfl | omega) υ'101 τ'105 J J J (by decide) Om Om (by show 8*_≤_;omega) (by rfl) (encA_len) ?_
   intro b18
   refine qM (q:=3) J J J α'3 Tk Az (by rfl) ?_
   refine qV (l_make (sz:=1) (enc:=encA) (len:=ln) (cap:=ln) ((none:Option Addr)) J J J J J (by first | rfl | omega) (by first | rfl | omega) υ'101 τ'105 J J J (by decide) Om Om (by show 8*_≤_;omega) (by rfl) (encA_len) ?_)
   intro b21
   refine qV (kB J J J J (vs:=[_,_,_,_,_]) (kQ υ'104 ω'104 (ps:=[(0,1),(1,1),(2,1),(3,1),(4,1)]) ⟨rfl,ζ'98,rfl,ζ'101,rfl,ζ'101,rfl,ζ'101,rfl,ζ'102,trivial⟩ rfl) ?_)
   refine sG J J J J (us:=[_,_,_,_,_]) J ?_
   intro b26
   refine qV (qR J J J J (qS (qW [6] (e':=[(6,_)]) J ?_)))
   refine qQ ?_
   refine join_next ((b26,b18,b21,b24)) (by trivial) (by exact ⟨rfl,trivial⟩) (by (try simp only [Ca,Na]);(repeat ((with_reducible apply Z2);focus (first | (with_reducible (repeat (first | exact Z0 | apply Z1));done) | (repeat (first | exact Z0 | apply Z1)))));(repeat (first | exact Z3 | exact Takes.self | refine takes_drop2 ?_)))
  refine l_make (sz:=1) (enc:=encA) (len:=ln) (cap:=ln) ((none:Option Addr)) J J J J J (by first | rfl | omega) (by first | rfl | omega) υ'101 τ'105 J J J (by decide) Om Om (by show 8*_≤_;omega) (by rfl) (encA_len) ?_
  intro b21
  refine qM (q:=0) J J J α'3 Tk Az (by rfl) ?_
  refine qV (l_make (sz:=1) (enc:=encA) (len:=tn) (cap:=tn) ((none:Option Addr)) J J J J J (by first | rfl | omega) (by first | rfl | omega) υ'101 τ'105 J J J (by decide) Om Om (by show 8*_≤_;omega) (by rfl) (encA_len) ?_)
  intro b18
  refine qV (kB J J J J (vs:=[_,_,_,_,_]) (kQ υ'104 ω'104 (ps:=[(0,1),(1,1),(2,1),(3,1),(4,1)]) ⟨rfl,ζ'98,rfl,ζ'101,rfl,ζ'101,rfl,ζ'101,rfl,ζ'102,trivial⟩ rfl) ?_)
  refine sG J J J J (us:=[_,_,_,_,_]) J ?_
  intro b26
  refine qV (qR J J J J (qS (qW [6] (e':=[(6,_)]) J ?_)))
  refine qQ ?_
  refine join_next ((b26,b18,b21,b24)) (by trivial) (by exact ⟨rfl,trivial⟩) (by (try simp only [Ca,Na]);(repeat ((with_reducible apply Z2);focus (first | (with_reducible (repeat (first | exact Z0 | apply Z1));done) | (repeat (first | exact Z0 | apply Z1)))));(repeat (first | exact Z3 | exact Takes.self | refine takes_drop2 ?_)))
 rintro ⟨d,v1,v2,v3⟩ -
 try simp only [Ca,Na]
 refine qL ?_
 have h00:(List.replicate tn (none:Option Addr))[0]?=some none:=by rw [List.getElem?_replicate,if_pos Om]
 refine kM J (.q 0 (.q 1 (.q 2 (.q 3 ((.l 4 [3] (.q 5 ((.l 6 [] (.done)))))))))) Kr ?_
 refine qK J J J J (qZ J J J J (qG (k:=1) J J J J υ'104 J ζ'101 J ?_))
 refine qP (j:=1) J J J J α'101 Tk Az (by rfl) ?_
 have sp_2:=Rv.new_spec
 refine qB J J J J J J Tryz.call32 (sp_2) Ts ?_
 rintro q0 -
 try simp only [Ca,Na]
 refine qM (q:=1) J J J α'101 Tk Az (by rfl) ?_
 refine qV (cK (sz:=0) (k:=0) (enc:=encA) (xs:=(List.replicate tn (none:Option Addr))) J J J J J υ'101 ζ'105 h00 (by first | rfl | omega) Om Tk ?_)
 intro ib32 io32 ha32 hl32 hc32
 refine sC (j:=0) (k:=0) (q:=(some ⟨q0,0,none⟩)) (enc:=encA) (off:=io32) J J J J ζ'105 (us:=[_]) J J J ha32 encA_len h00 Tk (by first | rfl | exact (Ad _).symm | omega) (by first | decide | exact Nat.le_of_ble_eq_true J) (by rfl) ?_
 refine qV (qS (qW [6] (e':=[(6,_)]) J ?_))
 refine qQ (qL ?_)
 have h01:((List.replicate tn (none:Option Addr)).set 0 (some ⟨q0,0,none⟩))[0]?=some (some ⟨q0,0,none⟩):=List.getElem?_set_self (by simp;omega)
 refine qC (.q 0 (.q 1 (.q 2 (.q 3 (.q 4 (.q 5 ((.l 6 [] (.done))))))))) Kr ?_
 refine qK J J J J (qZ J J J J (qG (k:=1) J J J J υ'104 J ζ'101 J ?_))
 refine qP (j:=1) J J J J α'101 Tk Az (by rfl) ?_
 refine cK (sz:=0) (k:=0) (enc:=encA) (xs:=((List.replicate tn (none:Option Addr)).set 0 (some ⟨q0,0,none⟩))) J J J J J υ'101 ζ'105 h01 (by first | rfl | omega) (by first | omega | (simp;omega)) Tk ?_
 intro ib37 io37 ha37 hl37 hc37
 refine cQ (v:=(.pointer (some ⟨q0,0,none⟩))) (j:=0) (k':=0) (enc:=encA) (off:=io37) J J J J α'105 ha37 encA_len h01 Tk (by first | rfl | exact (Ad _).symm | omega) (by rfl) ?_
 have sp_3:=Rv.inc_spec q0 ([]:List Int) 0 (by decide) (by decide)
 refine qB J J J J J J κ'33 (sp_3) Ts ?_
 rintro ⟨⟩ -
 try simp only [Ca,Na]
 refine qV (qS (qW [6] (e':=[(6,_)]) J ?_))
 refine qQ (qL (qC (.q 0 (.q 1 (.q 2 (.done)))) Kr ?_))
 refine qK J J J J (qR J J J J (qR J J J J (qS (qQ (qJ ?_)))))
 rw [show icL [] 0=[1] from by decide]
 refine s_restL_rep tn ?_
 refine rQ (res:=optR) (V:=List.replicate tn none) (Y:=List.replicate tn none) (S:=[]) 0 Tk (by simp) (by rw [List.getElem?_replicate,if_pos Om]) fun ka hka=>?_
 refine optR_someF (b:=q0) (t:=[1]) Td ?_
 refine sJ (res:=optR) (V:=List.replicate tn none) (Y:=List.replicate tn none) (S:=[]) 0 (some ⟨q0,0,none⟩) (some [1]) Ts (by simp) (by simp;omega) (by simp;omega) ?_
 rw [show (List.replicate tn (none:Option (List Int))).set 0 (some [1])=tabF tn (upd noF 0 (some [1])) from by rw [← tab_rep];exact tab_set]
 refine s_restL_rep ln ?_
 refine s_restL_rep on ?_
 refine cL (fun _ h=>sY (sz:=3) (enc:=encK) h) ?_
 refine s_restL_nil (res:=krA) ?_
 refine rv_fold (b:=d) (vNew th va vo lk pl) (pa:=nqp) (pc:=nqc) (cb:=nq) (Ta:=some ⟨v1,0,none⟩) (Tc:=tn) (La:=some ⟨v2,0,none⟩) (Lc:=ln) (Oa:=some ⟨v3,0,none⟩) (Oc:=on) (Ra:=none) (Rc:=0) (VT:=((List.replicate tn (none:Option Addr)).set 0 (some ⟨q0,0,none⟩))) (VL:=List.replicate ln none) (VO:=List.replicate on none) (VR:=[]) (YR:=[]) Ts (by first | rfl | simp) (by first | rfl | simp) (by first | rfl | simp) (by first | rfl | simp) J (by simp only [vNew,newF,htn,Int.toNat_natCast]) (by simp only [vNew,newF,hln,Int.toNat_natCast];exact (tab_rep _).symm) (by simp only [vNew,newF,hon,Int.toNat_natCast];exact (tab_rep _).symm) (by simp [vNew,newF,htn]) (by simp [vNew,newF,hln]) (by simp [vNew,newF,hon]) J (relK_nil (by show (0:Int)≤0;decide)) ?_
 refine ret2 J J J ((d,nqp,nqc)) (by first | rfl | (first | rfl | (congr 1;done) | (congr 1 <;> first | rfl | omega | (simp;done) | (simp;omega)))) (by trivial) ?_
 exact Tf
theorem beginbad_spec (th va vo lk:Int) (pl:List Int) (ao:Option Addr) (n c:Nat) (A:HProp) (hr:RdS A ao (pl.flatMap encZ)) (hn:pl.length=n) (hb:n≤4000000) (hok:¬ OkS th va vo lk pl):Spec Tryz.prog 17 [.agg #[.int .i64 th,.int .i64 va,.int .i64 vo,.int .i64 lk,.slice ao n c]] [A] (fun (_:Unit)=>.tuple #[.pointer none,.int .i64 5]) (fun _=>True) (fun _=>[A]):=by
 refine kS (n:=41) Tryz.func17 J J J ?_
 intro Γ w0
 simp only [argE,Ca,Na,Zd,Nat.reduceAdd]
 refine qL (qC ((.l 0 [] (.q 1 (.q 2 (.done))))) Kr ?_)
 refine sG J J J J (us:=[_,_,_,_,_]) J ?_
 intro b1
 refine qV (qR J J J J (qR J J J J (qS (qQ (qL (qC (.q 0 ((.l 1 [] (.q 2 (.q 3 (.q 4 (.q 5 (.q 6 (.done))))))))) Kr ?_))))))
 refine kC J J J J α'24 ζ'24 Tk 0 (us:=[_,_,_,_,_]) Az J J ?_
 have sp_2:=Fe.rnewbad_spec th va vo lk pl ao n c A (hr) Ln Om hok
 refine qB J J J J J J Tryz.call31 (sp_2) Ts ?_
 rintro ⟨⟩ -
 try simp only [Ca,Na]
 refine qV (qK J J J J (kX J J J J J (kX J J J J J (qR J J J J (qR J J J J (qS (qW [1,4,5] (e':=[(1,_),(4,_),(5,_)]) J ?_)))))))
 refine qQ (qL (qL (qC (.q 0 (.q 1 (.done))) Kr ?_)))
 refine qK J J J J (qD J J J J J (b_neq _ _ _ _) ?_)
 refine kF 13 J (v':=.bool true) (by first | rfl | simp) ?_
 refine qS (qQ (cC J ?_))
 refine qL (qC (.q 0 (.q 1 (.q 2 (.done)))) Kr ?_)
 refine qK J J J J (qR J J J J (qR J J J J (qS (qW [2,3] (e':=[(2,_),(3,_)]) J ?_))))
 refine qQ (qJ (qN (ret2 J J J (()) (by first | rfl | (first | rfl | (congr 1;done) | (congr 1 <;> first | rfl | omega | (simp;done) | (simp;omega)))) (by trivial) ?_)))
 exact Tf
end Go.Ab.Rv
namespace Go.Proofs
open Go.Shelf Go.Ab
def Tryz.laysSort_ren:Go.Shelf.Ren:=⟨fun | 189=>59 | 125=>98 | 257=>97 | 128=>124 | 129=>125 | 294=>115 | 295=>116 | 296=>117 | 297=>118 | 298=>119 | 299=>120 | 216=>121 | 300=>122 | 301=>123 | 328=>129 | 329=>130 | 330=>131 | 331=>132 | 332=>133 | 215=>134 | 343=>136 | n=>n,fun | 28=>22 | 3=>3 | 46=>192 | 0=>0 | 51=>216 | 53=>97 | 4=>4 | 183=>210 | 182=>209 | 131=>140 | 5=>5 | 9=>9 | 218=>224 | 222=>228 | 228=>231 | 229=>77 | n=>n,fun | n=>n⟩
theorem Tryz.laysSort:Go.Proofs.Lays.n189 Tryz.prog Tryz.laysSort_ren:={
  mixed:=by kernel_rfl
  f125:=Tryz.func98.trans (congrArg some Kr)
  f128:=Tryz.func124.trans (congrArg some Kr)
  f129:=Tryz.func125.trans (congrArg some Kr)
  f189:=Tryz.func59.trans (congrArg some Kr)
  f215:=Tryz.func134.trans (congrArg some Kr)
  f216:=Tryz.func121.trans (congrArg some Kr)
  f257:=Tryz.func97.trans (congrArg some Kr)
  f294:=Tryz.func115.trans (congrArg some Kr)
  f295:=Tryz.func116.trans (congrArg some Kr)
  f296:=Tryz.func117.trans (congrArg some Kr)
  f297:=Tryz.func118.trans (congrArg some Kr)
  f298:=Tryz.func119.trans (congrArg some Kr)
  f299:=Tryz.func120.trans (congrArg some Kr)
  f300:=Tryz.func122.trans (congrArg some Kr)
  f301:=Tryz.func123.trans (congrArg some Kr)
  f328:=Tryz.func129.trans (congrArg some Kr)
  f329:=Tryz.func130.trans (congrArg some Kr)
  f330:=Tryz.func131.trans (congrArg some Kr)
  f331:=Tryz.func132.trans (congrArg some Kr)
  f332:=Tryz.func133.trans (congrArg some Kr)
  f343:=Tryz.func136.trans (congrArg some Kr)
  t0:=Tryz.underlying0
  a0:=Tryz.isAgg0
  z0:=Tryz.sizeOf0
  v0:=Tryz.zeroValue0
  t3:=υ'3
  a3:=α'3
  z3:=ζ'3
  v3:=ω'3
  t4:=υ'4
  a4:=α'4
  z4:=ζ'4
  v4:=Tryz.zeroValue4
  t5:=Tryz.underlying5
  a5:=Tryz.isAgg5
  z5:=Tryz.sizeOf5
  v5:=Tryz.zeroValue5
  t9:=Tryz.underlying9
  a9:=Tryz.isAgg9
  z9:=Tryz.sizeOf9
  v9:=Tryz.zeroValue9
  t28:=υ'22
  a28:=α'22
  z28:=ζ'22
  v28:=Tryz.zeroValue22
  t46:=Tryz.underlying192
  a46:=Tryz.isAgg192
  z46:=Tryz.sizeOf192
  v46:=Tryz.zeroValue192
  t51:=Tryz.underlying216
  a51:=Tryz.isAgg216
  z51:=Tryz.sizeOf216
  v51:=Tryz.zeroValue216
  t53:=Tryz.underlying97
  a53:=α'97
  z53:=ζ'97
  v53:=Tryz.zeroValue97
  t131:=Tryz.underlying140
  a131:=Tryz.isAgg140
  z131:=Tryz.sizeOf140
  v131:=Tryz.zeroValue140
  t182:=Tryz.underlying209
  a182:=Tryz.isAgg209
  z182:=Tryz.sizeOf209
  v182:=Tryz.zeroValue209
  t183:=Tryz.underlying210
  a183:=Tryz.isAgg210
  z183:=Tryz.sizeOf210
  v183:=Tryz.zeroValue210
  t218:=Tryz.underlying224
  a218:=Tryz.isAgg224
  z218:=Tryz.sizeOf224
  v218:=Tryz.zeroValue224
  t222:=Tryz.underlying228
  a222:=Tryz.isAgg228
  z222:=Tryz.sizeOf228
  v222:=Tryz.zeroValue228
  t228:=Tryz.underlying231
  a228:=Tryz.isAgg231
  z228:=Tryz.sizeOf231
  v228:=Tryz.zeroValue231
  t229:=Tryz.underlying77
  a229:=Tryz.isAgg77
  z229:=Tryz.sizeOf77
  v229:=Tryz.zeroValue77 }
end Go.Proofs
set_option linter.unusedVariables false
namespace Go.Ab.So
open Go Go.Proofs Go.Ab Go.Ab.Fe
theorem sat_setCells {b off:Nat}:∀ (us vs:List Value) (i:Nat) (Γ:List HProp) (w:World),Sat (cells b off vs::Γ) (lh w)→i+us.length≤vs.length→Sat (cells b off (setL vs i us)::Γ) (lh (w.setCells b (off+i) us))∧Amb w (w.setCells b (off+i) us)
  | [],vs,i,Γ,w,s,h=>⟨s,Amb.refl w⟩
  | u::us,vs,i,Γ,w,s,h=>by
    have hlt:i < vs.length:=by simp at h;omega
    have hv:vs[i]?=some vs[i]:=List.getElem?_eq_getElem hlt
    have s':=s.setCell hv u
    obtain ⟨e1,e2⟩:=sat_setCells us (vs.set i u) (i+1) Γ _ s' (by simp at h ⊢;omega)
    exact ⟨e1,e2.os,e2.tape,e2.output,by have h9:=e2.size;rw [show (w.setCell ⟨b,off+i,none⟩ u).heap.size=w.heap.size from by simp] at h9;exact h9⟩
theorem lh_grow (w:World) (os:Array Obj):Hle (lh w) (lh (Sort.grow w os)):=by
  intro l v h
  have key:∀ b o,w.heap[b]?=some o→(Sort.grow w os).heap[b]?=some o:=fun b o hb=>by
    have hlt:=(Array.getElem?_eq_some_iff.1 hb).1
    show (w.heap++os)[b]?=some o
    rw [Array.getElem?_append_left hlt];exact hb
  obtain ⟨b,x⟩:=l
  cases hb:w.heap[b]? with
  | none =>
    cases x with
    | none=>simp only [lh,hb,lhO] at h;cases h
    | some o=>simp only [lh,hb,lhC] at h;cases h
  | some o =>
    cases x with
    | none=>simp only [lh,hb] at h;simp only [lh,key b o hb];exact h
    | some j=>simp only [lh,hb] at h;simp only [lh,key b o hb];exact h
theorem amb_grow (w:World) (os:Array Obj):Amb w (Sort.grow w os):=⟨rfl,rfl,rfl,by show w.heap.size≤(w.heap++os).size;rw [Array.size_append];omega⟩
abbrev srtZ (xs:List Int):List Int:=xs.mergeSort fun x y=>decide (x≤y)
theorem srtZ_len (xs:List Int):(srtZ xs).length=xs.length:=List.length_mergeSort xs
theorem srtZ_nil:srtZ []=[]:=List.eq_nil_of_length_eq_zero (by rw [srtZ_len];rfl)
theorem flat_map (xs:List Int):xs.flatMap encZ=xs.map (Value.int .i64):=by
  induction xs with
  | nil=>rfl
  | cons x xs ih=>rw [List.flatMap_cons,ih];rfl
theorem sort_spec (ao:Option Addr) (n c:Nat) (xs:List Int) (hn:xs.length=n) (hb:n < 4611686018427387904):Spec Tryz.prog 59 [.slice ao n c] [own 1 encZ ao c xs] (fun _:Unit=>.tuple #[]) (fun _=>True) (fun _=>[own 1 encZ ao c (srtZ xs)]):=by
  intro Γ w s
  subst hn
  obtain ⟨hc,h0,h1⟩:=own_le s
  cases ao with
  | none =>
    obtain ⟨rfl,rfl⟩:=h0 rfl
    have hq:=calls_of_every_depth fun D=>AnyS.slices_Sort_int_none_alone Tryz.laysSort D none 0 w
    refine hq.mono fun e w' ⟨h2,h3⟩=>?_
    subst h3
    exact ⟨(),h2,trivial,by show Sat ([own 1 encZ _ _ (srtZ [])]++Γ) _;rw [srtZ_nil];exact s,Amb.refl _⟩
  | some a =>
    obtain ⟨b,off,ha⟩:=h1 (by simp)
    cases ha
    obtain ⟨sp,hsp,s2⟩:=own_cells s
    have hH:Sort.Holds (Value.int .i64) w b off xs.toArray:=fun j hj=>by
      have hj':j < xs.length:=by simpa using hj
      have hv:(xs.flatMap encZ++sp)[j]?=some (.int .i64 xs[j]):=by
        rw [flat_map,List.getElem?_append_left (by simpa using hj'),List.getElem?_map,List.getElem?_eq_getElem hj'];rfl
      have h5:=s2.cell_frozen hv
      refine ⟨?_,h5.2⟩
      rw [h5.1]
      congr 2
      simp [hj']
    rcases Nat.eq_zero_or_pos xs.length with h0 | hpos
    · have hx:xs=[]:=List.eq_nil_of_length_eq_zero h0
      subst hx
      have hq:=calls_of_every_depth fun D=>AnyS.slices_Sort_int_none_alone Tryz.laysSort D (some ⟨b,off,none⟩) c w
      refine hq.mono fun e w' ⟨h2,h3⟩=>?_
      subst h3
      exact ⟨(),h2,trivial,by show Sat ([own 1 encZ _ _ (srtZ [])]++Γ) _;rw [srtZ_nil];exact s,Amb.refl _⟩
    · have hblk:b < w.heap.size:=by
        rcases Nat.lt_or_ge b w.heap.size with h | h
        · exact h
        · exfalso
          have h6:=(hH 0 (by simpa using hpos)).1
          obtain ⟨h7,l7,a7⟩:=s2.head
          have h8:=l7 _ _ (a7 0 (.int .i64 xs[0]) (by rw [flat_map,List.getElem?_append_left (by simpa using hpos),List.getElem?_map,List.getElem?_eq_getElem hpos];rfl))
          rw [lh_none_of_ge h] at h8;cases h8
      have hq:=calls_of_every_depth fun D=>AnyS.slices_Sort_int_alone Tryz.laysSort D b off c xs w hH hblk hb
      refine hq.mono fun e w' ⟨h2,q,os,h3⟩=>?_
      rw [Lib.sorted_world _ w b off q _ _ os hH (by simp)] at h3
      subst h3
      have s3:Sat (cells b off (xs.flatMap encZ++sp)::Γ) (lh (w.drewN q)):=s2
      obtain ⟨s4,a4⟩:=sat_setCells ((srtZ xs).map (Value.int .i64)) _ 0 Γ _ s3 (by simp [flat_map])
      have e5:setL (xs.flatMap encZ++sp) 0 ((srtZ xs).map (Value.int .i64))=(srtZ xs).flatMap encZ++sp:=by
        have:=setL_eq ((srtZ xs).map (Value.int .i64)) [] (xs.flatMap encZ) sp (by simp [flat_map])
        rw [Na,Na] at this
        rw [flat_map (srtZ xs)];exact this
      rw [e5] at s4
      have a5:Amb w ((w.drewN q).setCells b off ((srtZ xs).map (Value.int .i64))):=⟨a4.os,a4.tape,a4.output,a4.size⟩
      refine ⟨(),h2,trivial,?_,a5.trans (amb_grow _ os)⟩
      have s6:=own_mk (cap:=c) (enc:=encZ) (sz:=1) (xs:=srtZ xs) (by rw [srtZ_len];exact hc) (by rw [srtZ_len];exact hsp) s4
      exact Sat.mono s6 (lh_grow _ os)
end Go.Ab.So
set_option linter.unusedVariables false
set_option linter.unusedSimpArgs false
set_option maxRecDepth 100000
namespace Go.Ab.Hi
open Go Go.Proofs Go.Ab Go.Ab.Fe Go.Ab.Vc Go.Ab.Dj Go.Ab.So
/-- What is kept of a thread and a variable: its last Read, its last Write, their clocks. -/
abbrev Tch:=Int × Int × Int × Int
/-- What is told of a variable: its first pair, its latest, whether there are any, its last access, that one's number. -/
abbrev Tld:=T3 × T3 × Bool × T3 × Int
def encT (x:Tch):List Value:=[.int .i64 x.1,.int .i64 x.2.1,.int .u64 x.2.2.1,.int .u64 x.2.2.2]
abbrev evT (x:Tch):Value:=.agg #[.int .i64 x.1,.int .i64 x.2.1,.int .u64 x.2.2.1,.int .u64 x.2.2.2]
def encD (x:Tld):List Value:=[.int .i64 x.1.1,.int .i64 x.1.2.1,.int .i64 x.1.2.2,.int .i64 x.2.1.1,.int .i64 x.2.1.2.1,.int .i64 x.2.1.2.2,.bool x.2.2.1,.int .i64 x.2.2.2.1.1,.int .i64 x.2.2.2.1.2.1,.int .i64 x.2.2.2.1.2.2,.int .i64 x.2.2.2.2]
theorem encD_len:∀ x,(encD x).length=11:=fun _=>rfl
theorem encD_one:∀ x,(encD x).all Value.oneCell'=true:=fun _=>rfl
structure HS where
  v:VS
  vars:List Tld
  keys:List (Int × Int)
  kept:Int × Int→Option Tch
def t0:Tld:=((0,0,0),(0,0,0),false,(0,0,0),0)
/-- Lists in order. -/
def ins (z:Int):List Int→List Int
  | []=>[z]
  | x::xs=>if z≤x then z::x::xs else x::ins z xs
def isort:List Int→List Int
  | []=>[]
  | x::xs=>ins x (isort xs)
theorem ins_perm (z:Int):∀ l,(ins z l).Perm (z::l)
  | []=>.refl _
  | x::xs=>by
    unfold ins
    split
    · exact .refl _
    · exact ((ins_perm z xs).cons x).trans (.swap z x xs)
theorem isort_perm:∀ l,(isort l).Perm l
  | []=>.refl _
  | x::xs=>(ins_perm x _).trans ((isort_perm xs).cons x)
theorem ins_sorted (z:Int):∀ l:List Int,l.Pairwise (·≤·)→(ins z l).Pairwise (·≤·)
  | [],_=>by simp [ins]
  | x::xs,h=>by
    unfold ins
    rw [List.pairwise_cons] at h
    split
    · rename_i hz
      rw [List.pairwise_cons,List.pairwise_cons]
      exact ⟨fun a ha=>(List.mem_cons.1 ha).elim (fun e=>e ▸ hz) (fun ha=>Int.le_trans hz (h.1 a ha)),h⟩
    · rename_i hz
      rw [List.pairwise_cons]
      refine ⟨fun a ha=>?_,ins_sorted z xs h.2⟩
      rcases List.mem_cons.1 ((ins_perm z xs).mem_iff.1 ha) with rfl | ha
      · omega
      · exact h.1 a ha
theorem isort_sorted:∀ l:List Int,(isort l).Pairwise (·≤·)
  | []=>.nil
  | x::xs=>ins_sorted x _ (isort_sorted xs)
theorem sorted_eq {a b:List Int} (ha:a.Pairwise (·≤·)) (hb:b.Pairwise (·≤·)) (h:a.Perm b):a=b :=
  List.Perm.eq_of_pairwise (le:=fun x y=>decide (x≤y)) (fun x y _ _ h1 h2=>Int.le_antisymm (by simpa using h1) (by simpa using h2)) (ha.imp (by simp)) (hb.imp (by simp)) h
theorem srt_eq {a b:List Int} (h:a.Perm b):srtZ a=isort b:=by
  refine sorted_eq ?_ (isort_sorted b) ((List.mergeSort_perm a _).trans (h.trans (isort_perm b).symm))
  have:=List.pairwise_mergeSort (le:=fun x y:Int=>decide (x≤y)) (fun a b c h1 h2=>by simp at *;omega) (fun a b=>by simp;omega) a
  exact this.imp (by simp)
theorem isort_len (l:List Int):(isort l).length=l.length:=(isort_perm l).length_eq
theorem nodup_snoc {κ:Type} {S:List κ} {k:κ} (h:S.Nodup) (hk:k ∉ S):(S++[k]).Nodup:=List.nodup_append.2 ⟨h,by simp,fun a ha b hb=>by simp at hb;subst hb;intro e;exact hk (e ▸ ha)⟩
/-- The numbers that stand against an access, of what is kept at a key. -/
def agK (F:Int × Int→Option Tch) (k t o:Int) (l:List Int) (q:Int × Int):List Int :=
  if q.1≠o∨q.2=t then [] else match F q with
  | none=>[]
  | some w=>(if k=2∧0≤w.1∧l.getD q.2.toNat 0 < w.2.2.1 then [w.1] else [])++(if 0≤w.2.1∧l.getD q.2.toNat 0 < w.2.2.2 then [w.2.1] else [])
theorem agK_s {F:Int × Int→Option Tch} {k t o:Int} {l:List Int} {q:Int × Int} (h:q.1≠o∨q.2=t):agK F k t o l q=[]:=if_pos h
theorem agK_go {F:Int × Int→Option Tch} {k t o:Int} {l:List Int} {q:Int × Int} {w:Tch} (h:¬ q.1≠o) (h2:¬ q.2=t) (hF:F q=some w):agK F k t o l q=(if k=2∧0≤w.1∧l.getD q.2.toNat 0 < w.2.2.1 then [w.1] else [])++(if 0≤w.2.1∧l.getD q.2.toNat 0 < w.2.2.2 then [w.2.1] else []):=by
  unfold agK
  rw [if_neg (by rintro (h3 | h3) <;> contradiction),hF]
theorem agK_len (F:Int × Int→Option Tch) (k t o:Int) (l:List Int) (q:Int × Int):(agK F k t o l q).length≤2:=by
  unfold agK
  split
  · simp
  split
  · simp
  · rw [List.length_append];split <;> split <;> simp
theorem flat_snoc {α:Type} (f:α→List Int) (l:List α) (q:α):(l++[q]).flatMap f=l.flatMap f++f q:=by simp
theorem rG {α:Type} {f:α→List Int} (h:∀ q,(f q).length≤2):∀ l:List α,(l.flatMap f).length≤2*l.length
  | []=>by simp
  | q::l=>by
    rw [List.flatMap_cons,List.length_append,List.length_cons]
    have h1:=h q
    have h2:=rG h l
    omega
def agF (x:HS) (k t o:Int):List Int:=if k=1∨k=2 then isort (x.keys.flatMap (agK x.kept k t o (thF x.v t))) else []
theorem flat_perm {α:Type} (f:α→List Int) {a b:List α} (h:a.Perm b):(a.flatMap f).Perm (b.flatMap f):=h.flatMap_right f
def tchF (x:HS) (o t:Int):Tch:=(x.kept (o,t)).getD (-1,-1,0,0)
/-- What is told of a variable behind an access, against which the events of l stand. -/
def ntV (n k t o:Int) (l:List Int) (w:Tld):Tld:=match l.getLast? with
  | none=>(w.1,w.2.1,w.2.2.1,(k,t,o),n)
  | some z=>(if w.2.2.1=true then w.1 else (o,z,n),(o,z,n),true,(k,t,o),n)
def ntK (n k c:Int) (w:Tch):Tch:=if k=1 then (n,w.2.1,c,w.2.2.2) else (w.1,n,w.2.2.1,c)
/-- Behind an access. -/
def ntF (x:HS) (k t o:Int):HS:=⟨x.v,x.vars.set o.toNat (ntV x.v.ck.n k t o (agF x k t o) (x.vars.getD o.toNat t0)),if (x.kept (o,t)).isSome then x.keys else x.keys++[(o,t)],upd x.kept (o,t) (some (ntK x.v.ck.n k ((thF x.v t).getD t.toNat 0) (tchF x o t)))⟩
def accF (x:HS) (k t o:Int):HS:=if k=1∨k=2 then ntF x k t o else x
def heF (x:HS) (k t o:Int):HS:=if vcanF x.v k t o then ⟨vnF x.v k t o,(accF x k t o).vars,(accF x k t o).keys,(accF x k t o).kept⟩ else x
def heE (x:HS) (k t o:Int):Int:=if vcanF x.v k t o then 0 else 6
structure SInv (x:HS):Prop where
  v:VInv x.v
  len:(x.vars.length:Int)=x.v.ck.va
  nd:x.keys.Nodup
  ks:∀ q,q∈x.keys↔(x.kept q).isSome=true
  kt:∀ q∈x.keys,0≤q.2
  kn:(x.keys.length:Int)≤x.v.ck.n
theorem acc_o {x:CS} {k t o:Int} (hc:canF x k t o) (hk:k=1∨k=2):0≤o∧o < x.va:=by
  rcases hc with ⟨h1,h2,-⟩ | ⟨h1,h0,h2⟩
  · omega
  · unfold okK at h2
    rcases h2 with h | h | h | h | h | h | h | h <;> omega
theorem vnn {x:VS} {k t o:Int} (h:canF x.ck k t o):(vnF x k t o).ck.n=x.ck.n+1∧(vnF x k t o).ck.va=x.ck.va∧(vnF x k t o).ck.pa=x.ck.pa∧(vnF x k t o).ck.th=x.ck.th:=by
  rw [vn_ck]
  obtain ⟨n5,n6,n7,n9,n10,n11,nn⟩:=nxF_k h
  by_cases k5:k=5
  · rw [n5 k5];exact ⟨rfl,rfl,rfl,rfl⟩
  by_cases k6:k=6
  · rw [n6 k6];exact ⟨rfl,rfl,rfl,rfl⟩
  by_cases k7:k=7
  · rw [n7 k7];exact ⟨rfl,rfl,rfl,rfl⟩
  by_cases k9:k=9
  · rw [n9 k9];exact ⟨rfl,rfl,rfl,rfl⟩
  by_cases k10:k=10
  · rw [n10 k10];exact ⟨rfl,rfl,rfl,rfl⟩
  by_cases k11:k=11
  · rw [n11 k11];exact ⟨rfl,rfl,rfl,rfl⟩
  rw [nn k5 k6 k7 k9 k10 k11];exact ⟨rfl,rfl,rfl,rfl⟩
theorem he_inv {x:HS} (hx:SInv x) (k t o:Int):SInv (heF x k t o):=by
  unfold heF
  split
  · rename_i hv
    obtain ⟨e1,e2,-⟩:=vnn hv.1
    have hvn:=next_vinv hx.v hv
    unfold accF
    split
    · rename_i hk
      obtain ⟨h0,-⟩:=th_rng hx.v (can_th hv.1)
      have hkn:=hx.kn
      refine ⟨hvn,by simp only [ntF,List.length_set];rw [e2];exact hx.len,?_,fun q=>?_,fun q hq=>?_,?_⟩
      · simp only [ntF]
        split
        · exact hx.nd
        · rename_i hn
          refine List.nodup_append.2 ⟨hx.nd,by simp,fun a ha b hb=>?_⟩
          simp at hb;subst hb
          intro e;subst e
          exact hn ((hx.ks _).1 ha)
      · simp only [ntF]
        by_cases hq:q=(o,t)
        · subst hq
          rw [show upd x.kept (o,t) (some (ntK x.v.ck.n k ((thF x.v t).getD t.toNat 0) (tchF x o t))) (o,t)=_ from sL]
          refine ⟨fun _=>rfl,fun _=>?_⟩
          split
          · rename_i h;exact (hx.ks _).2 h
          · simp
        · rw [show upd x.kept (o,t) (some (ntK x.v.ck.n k ((thF x.v t).getD t.toNat 0) (tchF x o t))) q=_ from sD hq]
          refine Iff.trans ?_ (hx.ks q)
          split
          · exact .rfl
          · simp [hq]
      · simp only [ntF] at hq
        split at hq
        · exact hx.kt q hq
        · rcases List.mem_append.1 hq with hq | hq
          · exact hx.kt q hq
          · simp at hq;subst hq;exact h0
      · simp only [ntF]
        rw [e1]
        split
        · omega
        · simp;omega
    · have hkn:=hx.kn
      exact ⟨hvn,by rw [e2];exact hx.len,hx.nd,hx.ks,hx.kt,by show (x.keys.length:Int)≤(vnF x.v k t o).ck.n;rw [e1];omega⟩
  · exact hx
theorem he_n {x:HS} (k t o:Int):(heF x k t o).v.ck.n≤x.v.ck.n+1∧(heF x k t o).v.ck.pa=x.v.ck.pa∧(heF x k t o).v.ck.th=x.v.ck.th∧(heF x k t o).v.ck.va=x.v.ck.va:=by
  unfold heF
  split
  · rename_i hv
    obtain ⟨e1,e2,e3,e4⟩:=vnn hv.1
    exact ⟨by show (vnF x.v k t o).ck.n≤_;rw [e1];exact Int.le_refl _,e3,e4,e2⟩
  · exact ⟨by omega,rfl,rfl,rfl⟩
theorem he_v {x:HS} {k t o:Int} (hv:vcanF x.v k t o):(heF x k t o).v=vnF x.v k t o:=by rw [heF,if_pos hv]
def hEv (x:HS) (e:T3):HS:=heF x e.1 e.2.1 e.2.2
def hAll (x:HS) (es:List T3):HS:=es.foldl hEv x
def canH (x:HS) (e:T3):Prop:=vcanF x.v e.1 e.2.1 e.2.2
instance (x:HS) (e:T3):Decidable (canH x e):=by unfold canH;infer_instance
def okH (x:HS) (es:List T3):Prop:=∀ (i:Nat) e,es[i]?=some e→canH (hAll x (es.take i)) e
theorem hAll_next {x:HS} {es:List T3} {i:Nat} {e:T3} (h:es[i]?=some e):hAll x (es.take (i+1))=hEv (hAll x (es.take i)) e:=by
  rw [List.take_add_one,h,hAll,hAll,List.foldl_append];rfl
theorem hAll_inv {x:HS} (hx:SInv x):∀ es,SInv (hAll x es)
  | []=>hx
  | e::es=>hAll_inv (he_inv hx _ _ _) es
theorem hAll_n:∀ (es:List T3) (x:HS),(hAll x es).v.ck.n≤x.v.ck.n+es.length∧(hAll x es).v.ck.pa=x.v.ck.pa∧(hAll x es).v.ck.th=x.v.ck.th∧(hAll x es).v.ck.va=x.v.ck.va
  | [],x=>⟨by simp [hAll],rfl,rfl,rfl⟩
  | e::es,x=>by
    have h:=hAll_n es (hEv x e)
    have h2:=he_n (x:=x) e.1 e.2.1 e.2.2
    refine ⟨?_,h.2.1.trans h2.2.1,h.2.2.1.trans h2.2.2.1,h.2.2.2.trans h2.2.2.2⟩
    have h3:=h.1
    have h4:=h2.1
    simp only [List.length_cons]
    show (hAll (hEv x e) es).v.ck.n≤_
    have:(hEv x e).v.ck.n≤x.v.ck.n+1:=h4
    omega
theorem okH_next {x:HS} {es:List T3} {i:Nat} {e:T3} (h:es[i]?=some e) (ho:okH x (es.take i)) (hc:canH (hAll x (es.take i)) e):okH x (es.take (i+1)):=by
  intro j q hj
  have hi:=(List.getElem?_eq_some_iff.1 h).1
  have hj2:=(List.getElem?_eq_some_iff.1 hj).1
  rw [List.length_take] at hj2
  rw [List.getElem?_take_of_lt Om] at hj
  rw [List.take_take,Nat.min_eq_left Om]
  rcases Nat.lt_or_ge j i with h1 | h1
  · have:=ho j q (by rw [List.getElem?_take_of_lt h1];exact hj)
    rwa [List.take_take,Nat.min_eq_left Om] at this
  · obtain rfl:j=i:=by omega
    rw [h] at hj;cases hj;exact hc
def hNew (th va vo lk:Int) (pl:List Int):HS:=⟨vNew th va vo lk pl,List.replicate va.toNat t0,[],fun _=>none⟩
theorem new_sinv {th va vo lk:Int} {pl:List Int} (hok:OkS th va vo lk pl):SInv (hNew th va vo lk pl) :=
  ⟨new_vinv hok (new_inv hok),by have:=hok.va;simp [hNew,vNew,newF];omega,.nil,fun q=>by simp [hNew],fun q hq=>by simp [hNew] at hq,by simp [hNew,vNew,newF]⟩
/-- A history at b. -/
def hsR (pa:Option Addr) (pc:Nat) (po:Option Addr) (poc b:Nat) (x:HS):HProp:=fun h=>∃ vb mk va vc,Sat [cells b 0 [.pointer (some ⟨vb,0,none⟩),.int .i64 x.v.ck.th,.slice va x.vars.length vc,.map (some mk)],vsR pa pc po poc vb x.v,own 11 encD va vc x.vars,mapO ek2 evT mk x.kept] h
section
variable {w0:World} {ds:List Deferred} {n:Nat} {e:Env} {Γ Γ':List HProp} {X:Act→World→Prop}
theorem hs_open {pa:Option Addr} {pc:Nat} {po:Option Addr} {poc b:Nat} {x:HS} (k:∀ vb mk va vc,Le (St w0 ds n e (cells b 0 [.pointer (some ⟨vb,0,none⟩),.int .i64 x.v.ck.th,.slice va x.vars.length vc,.map (some mk)]::vsR pa pc po poc vb x.v::own 11 encD va vc x.vars::mapO ek2 evT mk x.kept::Γ)) X):Le (St w0 ds n e (hsR pa pc po poc b x::Γ)) X:=fun a w s=>by
  obtain ⟨h1,l1,⟨vb,mk,va,vc,a1⟩,s1⟩:=s.heap
  exact k vb mk va vc a w ⟨s.defers,s.size,s.env,Bun.unfold ⟨h1,l1,a1,s1⟩,s.amb⟩
theorem hs_fold {b:Nat} (x:HS) {pa:Option Addr} {pc:Nat} {po:Option Addr} {poc vb m vc mk:Nat} {va:Option Addr} {y:VS} {Y:List Tld} {c:Int} {K:List (Int × Int)} {F:Int × Int→Option Tch}
    (tk:Takes Γ [cells b 0 [.pointer (some ⟨vb,0,none⟩),.int .i64 c,.slice va m vc,.map (some mk)],vsR pa pc po poc vb y,own 11 encD va vc Y,mapO ek2 evT mk F] Γ') (hx:x=⟨y,Y,K,F⟩) (h1:m=Y.length) (h2:c=y.ck.th)
    (k:Le (St w0 ds n e (hsR pa pc po poc b x::Γ')) X):Le (St w0 ds n e Γ) X:=cL (fun h s=>by
  subst h1 h2 hx
  obtain ⟨h1,l1,a1,s1⟩:=Bun.fold (tk h s)
  exact ⟨h1,l1,⟨vb,mk,va,vc,a1⟩,s1⟩) k
end
end Go.Ab.Hi
set_option linter.unusedVariables false
set_option linter.unusedSimpArgs false
namespace Go.Ab
open Go
theorem run_next_gen {P:Program} (w:World) (ty:TypeId) (r bm since c0:Nat) (seen:Array Nat) (es:Array MapEntry) (clock:Nat) (hr:w.heap[r]?=some (.mapIter (some bm) since seen c0)) (hb:w.heap[bm]?=some (.map es clock)) (hold:∀ x∈es.toList,x.born < since) (hsc:since≤c0) :
    ((leftOf es seen).size=0∧(Instr.next (.pointer (some ⟨r,0,none⟩)) false ty).run P w=.ok (.tuple #[.bool false]) w) ∨
    ∃ e∈(leftOf es seen).toList,∃ w1:World,(w1.heap=w.heap∧w1.os=w.os∧w1.tape=w.tape∧w1.output=w.output)∧(Instr.next (.pointer (some ⟨r,0,none⟩)) false ty).run P w=.ok (.tuple #[.bool true,e.key,e.val]) { w1 with heap:=w1.heap.setIfInBounds r (.mapIter (some bm) since (seen.push e.born) clock) }:=by
  simp only [Instr.next,getObj,Sem.run_bind,Sem.run,hr,hb,Result.andThen,next_test_false seen es since c0 hold hsc,Bool.false_eq_true,if_false]
  unfold leftOf
  have hmem:∀ x∈(Array.filter (fun e=>!seen.contains e.born) es).toList,x.born < since:=fun x hx=>hold x (by simp at hx ⊢;exact hx.1)
  generalize Array.filter (fun e=>!seen.contains e.born) es=L at hmem ⊢
  have e1:L.filter (fun x=>decide (x.born < since))=L:=Array.filter_eq_self.2 (fun x hx=>by simpa using hmem x (by simpa using hx))
  have e2:L.filter (fun x=>decide (x.born ≥ since))=#[]:=by
    rw [Array.filter_eq_empty_iff]
    intro x hx
    have:=hmem x (by simpa using hx)
    simp
    omega
  simp only [e1,e2,Array.append_empty]
  by_cases h0:L.size=0
  · left
    have:L=#[]:=Array.eq_empty_of_size_eq_zero h0
    subst this
    refine ⟨rfl,?_⟩
    simp [choose,Sem.run,Question.forced]
  · right
    have hne:L.isEmpty=false:=by simp [Array.isEmpty,h0]
    simp only [hne,Bool.false_eq_true,if_false,Array.empty_append,Array.size_map]
    have hch:∃ (j:Nat) (w1:World),j < L.size∧(w1.heap=w.heap∧w1.os=w.os∧w1.tape=w.tape∧w1.output=w.output)∧(choose (Question.mapNext L.size)).run P w=.ok j w1:=by
      by_cases hf:L.size≤1
      · exact ⟨0,w,by omega,⟨rfl,rfl,rfl,rfl⟩,by simp [choose,Sem.run,Question.forced,hf]⟩
      · exact ⟨_,w.drew,Nat.mod_lt _ Om,⟨rfl,rfl,rfl,rfl⟩,by
          simp only [choose,Sem.run,Question.forced,decide_eq_true_eq,hf,if_false,Question.cut]
          rfl⟩
    obtain ⟨j,w1,hj,hal,hrun⟩:=hch
    refine ⟨L[j],by simp,w1,hal,?_⟩
    have hr1:w1.heap[r]?=some (.mapIter (some bm) since seen c0):=by rw [hal.1];exact hr
    have hset:∀ o',(setObj r o').run P w1=.ok () { w1 with heap:=w1.heap.setIfInBounds r o' }:=fun o'=>by
      simp [setObj,Sem.run,hr1]
    simp only [hrun,Array.getElem?_map,Array.getElem?_eq_getElem hj,Option.map_some,Sem.run_bind,hset,Result.andThen]
    rfl
theorem run_entry_gen {P:Program} (w:World) (r bm since:Nat) (seen:Array Nat) (es:Array MapEntry) (clock:Nat) (e:MapEntry) (hr:w.heap[r]?=some (.mapIter (some bm) since (seen.push e.born) clock)) (hb:w.heap[bm]?=some (.map es clock)) (he:e∈es.toList) (hn:(es.toList.map (·.born)).Nodup) :
    (Instr.entry (.pointer (some ⟨r,0,none⟩))).run P w=.ok (.tuple #[e.key,e.val]) w:=by
  have hf:es.find? (·.born == e.born)=some e:=by rw [← Array.find?_toList];exact find_born e es.toList hn he
  simp only [Instr.entry,getObj,Sem.run_bind,Sem.run,hr,hb,Result.andThen,Array.back?_push,bne_self_eq_false,Bool.false_eq_true,if_false,hf]
  rfl
theorem iter_no {a b c d}:∀ x y z,Obj.mapIter a b c d≠.cells x y z:=fun _ _ _ h=>by cases h
/-- A loop over the map m: F what it holds (N entries), vis the keys gone over. -/
structure RngL {κ ν:Type} (F:κ→Option ν) (M:List (κ × ν × Nat)) (clock:Nat) (seen:List Nat) (vis:List κ) (N:Nat):Prop where
  map:MapL F M clock
  len:M.length=N
  vs:∃ V:List (κ × ν × Nat),(∀ p∈V,p∈M)∧V.map (·.1)=vis∧V.map (·.2.2)=seen
def rng {κ ν:Type} (ek:κ→Value) (ev:ν→Value) (r m:Nat) (F:κ→Option ν) (vis:List κ) (N:Nat):HProp:=fun h =>
  ∃ (M:List (κ × ν × Nat)) (clock since:Nat) (seen:List Nat),RngL F M clock seen vis N∧(∀ p∈M,p.2.2 < since)∧since≤clock∧Sat [objP r (.mapIter (some m) since seen.toArray clock),objP m (.map (M.map (mke ek ev)).toArray clock)] h
section
variable {κ ν:Type} {F:κ→Option ν} {M:List (κ × ν × Nat)} {clock N:Nat} {seen:List Nat} {vis:List κ}
theorem RngL.facts (h:RngL F M clock seen vis N):(∀ k∈vis,∃ v,F k=some v):=fun k hk=>by
  obtain ⟨V,h1,h2,-⟩:=h.vs
  rw [← h2] at hk
  obtain ⟨p,hp,rfl⟩:=List.mem_map.1 hk
  exact ⟨p.2.1,(h.map.tells _ _).2 ⟨p.2.2,h1 p hp⟩⟩
theorem born_inj' (h:MapL F M clock) {p q:κ × ν × Nat} (hp:p∈M) (hq:q∈M) (e:p.2.2=q.2.2):p=q:=by
  obtain ⟨i,hi⟩:=List.getElem?_of_mem hp
  obtain ⟨j,hj⟩:=List.getElem?_of_mem hq
  have:i=j:=nodup_idx h.born (x:=p.2.2) (by rw [List.getElem?_map,hi];rfl) (by rw [List.getElem?_map,hj,e];rfl)
  subst this
  rw [hi] at hj;cases hj;rfl
theorem key_inj' (h:MapL F M clock) {p q:κ × ν × Nat} (hp:p∈M) (hq:q∈M) (e:p.1=q.1):p=q:=by
  obtain ⟨i,hi⟩:=List.getElem?_of_mem hp
  obtain ⟨j,hj⟩:=List.getElem?_of_mem hq
  have:i=j:=nodup_idx h.keys (x:=p.1) (by rw [List.getElem?_map,hi];rfl) (by rw [List.getElem?_map,hj,e];rfl)
  subst this
  rw [hi] at hj;cases hj;rfl
theorem nodup_sub_len {α:Type} [DecidableEq α]:∀ {a b:List α},a.Nodup→(∀ x∈a,x∈b)→a.length≤b.length
  | [],_,_,_=>Nat.zero_le _
  | x::a,b,hn,hs=>by
    rw [List.nodup_cons] at hn
    have h1:x∈b:=hs x List.mem_cons_self
    have h2:=nodup_sub_len (a:=a) (b:=b.erase x) hn.2 fun y hy=>(List.mem_erase_of_ne (fun e:y=x=>hn.1 (by rw [← e];exact hy))).2 (hs y (List.mem_cons_of_mem _ hy))
    have h3:=List.length_erase_of_mem h1
    have h4:=List.length_pos_of_mem h1
    simp only [List.length_cons];omega
end
section
variable {P:Program} {r:Option Nat} {w0:World} {ds:List Deferred} {n:Nat} {e:Env} {Γ:List HProp} {K:Act→World→Prop} {l:List Oper} {i:Nat} {t:RT} {fl:List Nat}
variable {d:Nat} {ty:TypeId} {pos:String} {af:Array Edge} {g:Option (Nat × Bool)}
variable {κ ν:Type} {ek:κ→Value} {ev1:ν→Value} {F:κ→Option ν}
theorem l_range {T kt et:TypeId} {x:Operand} {m:Nat} {Γ':List HProp} (ho:nthO l i=some ⟨some d,.range T x,ty,pos,af,g⟩) (hg:gd l e g=some true) (hn:Nat.blt d n=true) (hx:ev e x=some (.map (some m))) (hT:P.underlying T=some (.map kt et)) (tk:Take Γ (mapO ek ev1 m F) Γ')
    (k1:∀ r1 N,Le (St w0 ds n ((d,.pointer (some ⟨r1,0,none⟩))::e) (rng ek ev1 r1 m F [] N::Γ')) (AG P r l.toArray fl (wpRT P r l.toArray K t))):Le (St w0 ds n e Γ) (wpRT P r l.toArray K (.l i fl t)) :=
  l_gen ho hg (fun _ h=>by cases h) (fun a w s=>by
    obtain ⟨M,hM⟩:=(tk _ s.heap).ex
    obtain ⟨clock,hM⟩:=hM.ex
    obtain ⟨h1,h2⟩:=hM.pure_and
    have hb:=h2.obj.1
    have hr':(execOp a.eval ⟨some d,.range T x,ty,pos,af,g⟩).run P w=.ok (.value (.pointer (some ⟨w.heap.size,0,none⟩))) (w.alloc (.mapIter (some m) clock #[] clock)):=by
      simp [execOp,s.ev hx,run_range_map w T kt et m _ clock hT hb]
    rw [hr']
    have s1:=h2.newObj (.mapIter (some m) clock #[] clock) iter_no
    obtain ⟨h3,l3,a3,s3⟩:=s1
    have s4:Sat (rng ek ev1 w.heap.size m F [] M.length::Γ') (lh (w.alloc (.mapIter (some m) clock #[] clock))):=by
      obtain ⟨h5,l5,a5,s5⟩:=Bun.fold (Γ:=[objP w.heap.size (.mapIter (some m) clock #[] clock),objP m (.map (M.map (mke ek ev1)).toArray clock)]) ⟨h3,l3,a3,s3⟩
      exact ⟨h5,l5,⟨M,clock,clock,[],⟨h1,rfl,[],by simp,rfl,rfl⟩,h1.lt,Nat.le_refl _,a5⟩,s5⟩
    exact k1 _ _ _ _ ((s.world s4 ⟨rfl,rfl,rfl,by simp⟩).put hn))
theorem l_next [DecidableEq κ] {x:Operand} {r1 m N:Nat} {vis:List κ} {Γ':List HProp} (ho:nthO l i=some ⟨some d,.next x false,ty,pos,af,g⟩) (hg:gd l e g=some true) (hn:Nat.blt d n=true) (hx:ev e x=some (.pointer (some ⟨r1,0,none⟩))) (hnd:vis.Nodup) (tk:Take Γ (rng ek ev1 r1 m F vis N) Γ')
    (k0:(∀ k v,F k=some v→k∈vis)→(∀ k∈vis,∃ v,F k=some v)→Le (St w0 ds n ((d,.tuple #[.bool false])::e) (mapO ek ev1 m F::Γ')) (AG P r l.toArray fl (wpRT P r l.toArray K t)))
    (k1:∀ k v,F k=some v→k ∉ vis→vis.length < N→Le (St w0 ds n ((d,.tuple #[.bool true,ek k,ev1 v])::e) (rng ek ev1 r1 m F (vis++[k]) N::Γ')) (AG P r l.toArray fl (wpRT P r l.toArray K t))):Le (St w0 ds n e Γ) (wpRT P r l.toArray K (.l i fl t)) :=
  l_gen ho hg (fun _ h=>by cases h) (fun a w s=>by
    have s0:=tk _ s.heap
    obtain ⟨h1,l1,⟨M,clock,since,seen,hR,hold,hsc,a1⟩,s1⟩:=s0
    have s2:Sat (objP r1 (.mapIter (some m) since seen.toArray clock)::objP m (.map (M.map (mke ek ev1)).toArray clock)::Γ') (lh w):=Bun.unfold ⟨h1,l1,a1,s1⟩
    have hbr:=s2.obj.1
    have hbm:=(Sat.swap s2).obj.1
    obtain ⟨V,v1,v2,v3⟩:=hR.vs
    rcases run_next_gen (P:=P) w ty r1 m since clock seen.toArray _ clock hbr hbm (fun y hy=>by
        simp only [List.mem_map] at hy
        obtain ⟨p,hp,rfl⟩:=hy
        exact hold p hp) hsc with ⟨h3,h4⟩ | ⟨en,h3,w1,⟨q1,q2,q3,q4⟩,h4⟩
    · have hr':(execOp a.eval ⟨some d,.next x false,ty,pos,af,g⟩).run P w=.ok (.value (.tuple #[.bool false])) w:=by simp [execOp,s.ev hx,h4]
      rw [hr']
      have hall:∀ k v,F k=some v→k∈vis:=fun k v hkv=>by
        obtain ⟨b,hb⟩:=(hR.map.tells k v).1 hkv
        have hin:b∈seen:=by
          by_cases hs:b∈seen
          · exact hs
          · exfalso
            have hm:mke ek ev1 (k,v,b)∈(leftOf (M.map (mke ek ev1)).toArray seen.toArray).toList:=by
              unfold leftOf
              simp only [Array.toList_filter,List.mem_filter,List.mem_map]
              exact ⟨⟨_,hb,rfl⟩,by simp [mke,hs]⟩
            have:0 < (leftOf (M.map (mke ek ev1)).toArray seen.toArray).toList.length:=List.length_pos_of_mem hm
            simp at this;omega
        rw [← v3] at hin
        obtain ⟨p,hp,hpb⟩:=List.mem_map.1 hin
        have:=born_inj' hR.map (v1 p hp) hb hpb
        rw [← v2];exact List.mem_map.2 ⟨p,hp,by rw [this]⟩
      have sm:Sat (mapO ek ev1 m F::Γ') (lh w):=by
        obtain ⟨h6,l6,a6,s6⟩:=Sat.swap s2
        obtain ⟨h7,l7,a7,s7⟩:=s6
        exact ⟨h6,l6,⟨M,clock,hR.map,a6⟩,s7.mono (Hmin_le _ _)⟩
      exact k0 hall hR.facts _ _ ((s.world sm (Amb.refl w)).put hn)
    · obtain ⟨p,hp,rfl⟩:∃ p∈M,mke ek ev1 p=en:=by
        have:=(mem_left h3).1
        simpa using this
      have hns:p.2.2 ∉ seen:=by
        have:=(mem_left h3).2
        simpa [mke] using this
      have hr':(execOp a.eval ⟨some d,.next x false,ty,pos,af,g⟩).run P w=.ok (.value (.tuple #[.bool true,ek p.1,ev1 p.2.1])) { w1 with heap:=w1.heap.setIfInBounds r1 (.mapIter (some m) since (seen.toArray.push p.2.2) clock) }:=by
        simp [execOp,s.ev hx,h4,mke]
      rw [hr']
      have hkn:p.1 ∉ vis:=fun hk=>by
        rw [← v2] at hk
        obtain ⟨q,hq,hqk⟩:=List.mem_map.1 hk
        have:=key_inj' hR.map (v1 q hq) hp hqk
        subst this
        exact hns (v3 ▸ List.mem_map.2 ⟨q,hq,rfl⟩)
      have hlt:vis.length < N:=by
        have h8:=nodup_sub_len (a:=vis++[p.1]) (b:=M.map (·.1)) (List.nodup_append.2 ⟨hnd,by simp,fun a ha b hb=>by simp at hb;subst hb;intro e;exact hkn (e ▸ ha)⟩) (fun k hk=>by
          rcases List.mem_append.1 hk with hk | hk
          · rw [← v2] at hk
            obtain ⟨q,hq,rfl⟩:=List.mem_map.1 hk
            exact List.mem_map.2 ⟨q,v1 q hq,rfl⟩
          · simp at hk;subst hk;exact List.mem_map.2 ⟨p,hp,rfl⟩)
        rw [List.length_append,List.length_map,hR.len] at h8
        simp at h8;omega
      have s3:=s2.setObj (.mapIter (some m) since (seen.toArray.push p.2.2) clock) iter_no
      have hw:lh { w1 with heap:=w1.heap.setIfInBounds r1 (.mapIter (some m) since (seen.toArray.push p.2.2) clock) }=lh { w with heap:=w.heap.setIfInBounds r1 (.mapIter (some m) since (seen.toArray.push p.2.2) clock) }:=by
        unfold lh;simp only [q1]
      have s4:Sat (rng ek ev1 r1 m F (vis++[p.1]) N::Γ') (lh { w1 with heap:=w1.heap.setIfInBounds r1 (.mapIter (some m) since (seen.toArray.push p.2.2) clock) }):=by
        rw [hw]
        obtain ⟨h5,l5,a5,s5⟩:=Bun.fold (Γ:=[objP r1 (.mapIter (some m) since (seen.toArray.push p.2.2) clock),objP m (.map (M.map (mke ek ev1)).toArray clock)]) s3
        refine ⟨h5,l5,⟨M,clock,since,seen++[p.2.2],⟨hR.map,hR.len,V++[p],?_,?_,?_⟩,hold,hsc,?_⟩,s5⟩
        · intro q hq
          rcases List.mem_append.1 hq with hq | hq
          · exact v1 q hq
          · simp at hq;subst hq;exact hp
        · simp [v2]
        · simp [v3]
        · have e9:(seen++[p.2.2]).toArray=seen.toArray.push p.2.2:=by simp
          rw [e9];exact a5
      exact k1 p.1 p.2.1 ((hR.map.tells _ _).2 ⟨p.2.2,hp⟩) hkn hlt _ _ ((s.world s4 ⟨q2,q3,q4,by simp [q1]⟩).put hn))
theorem q_entry {x:Operand} {r1 m N:Nat} {vis:List κ} {k:κ} {v:ν} {Γ':List HProp} (ho:nthO l i=some ⟨some d,.entry x,ty,pos,af,g⟩) (hg:gd l e g=some true) (hn:Nat.blt d n=true) (hx:ev e x=some (.pointer (some ⟨r1,0,none⟩))) (hF:F k=some v) (tk:Take Γ (rng ek ev1 r1 m F (vis++[k]) N) Γ')
    (k1:Le (St w0 ds n ((d,.tuple #[ek k,ev1 v])::e) Γ) (wpRT P r l.toArray K t)):Le (St w0 ds n e Γ) (wpRT P r l.toArray K (.q i t)) :=
  q_read ho hg rfl hn rfl (fun _ h=>by cases h) (fun a w s=>by
    obtain ⟨h1,l1,⟨M,clock,since,seen,hR,hold,hsc,a1⟩,s1⟩:=tk _ s.heap
    have s2:Sat (objP r1 (.mapIter (some m) since seen.toArray clock)::objP m (.map (M.map (mke ek ev1)).toArray clock)::Γ') (lh w):=Bun.unfold ⟨h1,l1,a1,s1⟩
    have hbr:=s2.obj.1
    have hbm:=(Sat.swap s2).obj.1
    obtain ⟨V,v1,v2,v3⟩:=hR.vs
    obtain ⟨b,hb⟩:=(hR.map.tells k v).1 hF
    have hV:∃ V0,V=V0++[(k,v,b)]:=by
      have hne:V≠[]:=fun e=>by rw [e] at v2;simp at v2
      refine ⟨V.dropLast,?_⟩
      have h3:=List.dropLast_concat_getLast hne
      have h4:(V.getLast hne).1=k:=by
        have h5:(V.map (·.1)).getLast?=(vis++[k]).getLast?:=by rw [v2]
        rw [List.getLast?_map,List.getLast?_eq_some_getLast hne] at h5
        simpa using h5
      have h5:=key_inj' hR.map (v1 _ (List.getLast_mem hne)) hb h4
      rw [← h5];exact h3.symm
    obtain ⟨V0,rfl⟩:=hV
    have hseen:seen.toArray=(V0.map (·.2.2)).toArray.push b:=by rw [← v3];simp
    rw [hseen] at hbr
    have hrun:=run_entry_gen (P:=P) w r1 m since (V0.map (·.2.2)).toArray _ clock (mke ek ev1 (k,v,b)) hbr hbm (by simpa using ⟨k,v,b,hb,rfl⟩) (by simpa [mke,Function.comp_def] using hR.map.born)
    simp [execOp,s.ev hx,hrun,mke]) k1
end
end Go.Ab
set_option linter.unusedVariables false
set_option linter.unusedSimpArgs false
set_option maxRecDepth 100000
namespace Go.Ab.Hi
open Go Go.Proofs Go.Ab Go.Ab.Fe Go.Ab.Vc Go.Ab.Dj Go.Ab.So
theorem there_spec (b vb:Nat) (v1 v2 v3:Value):Spec Tryz.prog 23 [.pointer (some ⟨b,0,none⟩)] [cells b 0 [.pointer (some ⟨vb,0,none⟩),v1,v2,v3]] (fun (_:Unit)=>.bool true) (fun _=>True) (fun _=>[cells b 0 [.pointer (some ⟨vb,0,none⟩),v1,v2,v3]]):=by
 refine kS (n:=12) Tryz.func23 J J J ?_
 intro Γ w0
 simp only [argE,Ca,Na,Zd,Nat.reduceAdd]
 refine qL (qC (.q 0 (.done)) Kr ?_)
 refine qR J J J J (qS (qQ (qL (qC (.q 0 (.q 1 (.q 2 (.q 3 (.q 4 (.q 5 (.q 6 (.q 7 (.q 8 (.q 9 (.done))))))))))) Kr ?_))))
 refine qK J J J J (q_ne_nil J J J J υ'29 ?_)
 refine kF 4 J (v':=.bool true) J ?_
 refine qK J J J J (qK J J J J (qZ J J J J (qG (k:=0) J J J J υ'48 J ζ'44 J ?_)))
 refine qP (j:=0) J J J J α'44 Tk Az (by rfl) ?_
 refine q_ne_nil J J J J Tryz.underlying44 ?_
 refine kF 10 J (v':=.bool true) J ?_
 refine kL J J J J J (qR J J J J (qS (qW [2] (e':=[(2,_)]) J ?_)))
 refine qQ (qJ (cR J J (()) (by first | rfl | (first | rfl | (congr 1;done) | (congr 1 <;> first | rfl | omega | (simp;done) | (simp;omega)))) (by trivial) ?_))
 exact Tf
theorem new_spec (th va vo lk:Int) (pl:List Int) (ao:Option Addr) (n c:Nat) (A:HProp) (hr:RdS A ao (pl.flatMap encZ)) (hn:pl.length=n) (hb:n≤4000000) (hok:OkS th va vo lk pl):Spec Tryz.prog 5 [.agg #[.int .i64 th,.int .i64 va,.int .i64 vo,.int .i64 lk,.slice ao n c]] [A] (fun (r:Nat × (Option Addr × Nat) × Option Addr × Nat)=>.tuple #[.pointer (some ⟨r.1,0,none⟩),.int .i64 0]) (fun r=>True) (fun r=>[A,own 1 encZ r.2.1.1 r.2.1.2 pl,own 1 encZ r.2.2.1 r.2.2.2 pl,hsR r.2.1.1 r.2.1.2 r.2.2.1 r.2.2.2 r.1 (hNew th va vo lk pl)]):=by
 refine kS (n:=23) Tryz.func5 J J J ?_
 intro Γ w0
 simp only [argE,Ca,Na,Zd,Nat.reduceAdd]
 refine qL (qC ((.l 0 [] (.q 1 (.q 2 (.done))))) Kr ?_)
 refine sG J J J J (us:=[_,_,_,_,_]) J ?_
 intro b1
 refine qV (qR J J J J (qR J J J J (qS (qQ (qL (qC (.q 0 ((.l 1 [] (.q 2 (.q 3 (.q 4 (.q 5 (.q 6 (.done))))))))) Kr ?_))))))
 refine kC J J J J α'24 ζ'24 Tk 0 (us:=[_,_,_,_,_]) Az J J ?_
 have sp_1:=Dj.begin_spec th va vo lk pl ao n c A hr hn hb hok
 refine qB J J J J J J Tryz.call16 (sp_1) Ts ?_
 rintro ⟨⟨vb,cbx,pa,pc⟩,po,poc⟩ -
 try simp only [Ca,Na]
 refine qV (qK J J J J (kX J J J J J (kX J J J J J (qR J J J J (qR J J J J (qS (qW [1,4,5] (e':=[(1,_),(4,_),(5,_)]) J ?_)))))))
 refine qQ (qL (qL (qC (.q 0 (.q 1 (.done))) Kr ?_)))
 refine qK J J J J (qD J J J J J (b_neq _ _ _ _) ?_)
 refine kF 12 J (v':=.bool false) (by first | rfl | simp) ?_
 refine qS (qQ (kN J ?_))
 refine qH (qQ (qL ?_))
 obtain ⟨nv,hnv⟩:∃ q:Nat,va=(q:Int):=⟨va.toNat,by have:=hok.va;omega⟩
 have hvb:=hok.va
 refine cP (A:=cells b1 0 [.int .i64 th,.int .i64 va,.int .i64 vo,.int .i64 lk,.slice ao n c]) Tk ?_
 refine cL (Γ':=cells b1 0 [.int .i64 th,.int .i64 ((nv:Nat):Int),.int .i64 vo,.int .i64 lk,.slice ao n c]::_) (fun _ h=>(by rw [← hnv];exact h)) ?_
 refine kM J (.q 0 (.q 1 (.q 2 (.q 3 (.q 4 ((.alt (.l 5 [2] ((.l 6 [2] (.q 7 ((.l 8 [] (.q 9 (.q 10 (.done))))))))) (.l 6 [2,4] ((.l 5 [2] (.q 7 ((.l 8 [] (.q 9 (.q 10 (.done)))))))))))))))) Kr ?_
 refine qK J J J J (qG (k:=0) J J J J υ'24 J ζ'3 J ?_)
 refine qP (j:=0) J J J J α'3 Tk Az (by rfl) ?_
 refine qG (k:=1) J J J J υ'24 J ζ'3 J ?_
 refine qP (j:=1) J J J J α'3 Tk Az (by rfl) ?_
 refine rV ?_ ?_
 ·
  refine l_make (sz:=11) (enc:=encD) (len:=nv) (cap:=nv) (t0) J J J J J (by first | rfl | omega) (by first | rfl | omega) υ'45 Tryz.typeInfo90 J J J (by decide) Om Om (by show 88*_≤_;omega) (by rfl) (encD_len) ?_
  intro b19
  refine qM (q:=0) J J J α'3 Tk Az (by rfl) ?_
  refine qV (rR (Int × Int) Tch ek2 evT J J J ?_)
  intro mk
  refine qM (q:=0) J J J α'3 Tk Az (by rfl) ?_
  refine qV (kB J J J J (vs:=[_,_,_,_]) (kQ υ'48 ω'48 (ps:=[(0,1),(1,1),(2,1),(3,1)]) ⟨rfl,ζ'44,rfl,ζ'3,rfl,ζ'45,rfl,ζ'46,trivial⟩ rfl) ?_)
  refine sG J J J J (us:=[_,_,_,_]) J ?_
  intro b22
  refine qV (qR J J J J (qR J J J J (qS (qW [2,3] (e':=[(2,_),(3,_)]) J ?_))))
  refine qQ (qJ (hs_fold (b:=b22) (hNew th va vo lk pl) (pa:=pa) (pc:=pc) (po:=po) (poc:=poc) (vb:=vb) (va:=some ⟨b19,0,none⟩) (vc:=nv) (mk:=mk) (K:=[]) Ts (by rw [hNew,hnv,Int.toNat_natCast];rfl) (by simp) (by rfl) ?_))
  refine ret2 J J J ((b22,(pa,pc),po,poc)) (by first | rfl | (first | rfl | (congr 1;done) | (congr 1 <;> first | rfl | omega | (simp;done) | (simp;omega)))) (by trivial) ?_
  exact Tf
 refine rR (Int × Int) Tch ek2 evT J J J ?_
 intro mk
 refine qM (q:=0) J J J α'3 Tk Az (by rfl) ?_
 refine qM (q:=1) J J J α'3 Tk Az (by rfl) ?_
 refine qV (l_make (sz:=11) (enc:=encD) (len:=nv) (cap:=nv) (t0) J J J J J (by first | rfl | omega) (by first | rfl | omega) υ'45 Tryz.typeInfo90 J J J (by decide) Om Om (by show 88*_≤_;omega) (by rfl) (encD_len) ?_)
 intro b19
 refine qM (q:=0) J J J α'3 Tk Az (by rfl) ?_
 refine qV (kB J J J J (vs:=[_,_,_,_]) (kQ υ'48 ω'48 (ps:=[(0,1),(1,1),(2,1),(3,1)]) ⟨rfl,ζ'44,rfl,ζ'3,rfl,ζ'45,rfl,ζ'46,trivial⟩ rfl) ?_)
 refine sG J J J J (us:=[_,_,_,_]) J ?_
 intro b22
 refine qV (qR J J J J (qR J J J J (qS (qW [2,3] (e':=[(2,_),(3,_)]) J ?_))))
 refine qQ (qJ (hs_fold (b:=b22) (hNew th va vo lk pl) (pa:=pa) (pc:=pc) (po:=po) (poc:=poc) (vb:=vb) (va:=some ⟨b19,0,none⟩) (vc:=nv) (mk:=mk) (K:=[]) Ts (by rw [hNew,hnv,Int.toNat_natCast];rfl) (by simp) (by rfl) ?_))
 refine ret2 J J J ((b22,(pa,pc),po,poc)) (by first | rfl | (first | rfl | (congr 1;done) | (congr 1 <;> first | rfl | omega | (simp;done) | (simp;omega)))) (by trivial) ?_
 exact Tf
theorem newbad_spec (th va vo lk:Int) (pl:List Int) (ao:Option Addr) (n c:Nat) (A:HProp) (hr:RdS A ao (pl.flatMap encZ)) (hn:pl.length=n) (hb:n≤4000000) (hok:¬ OkS th va vo lk pl):Spec Tryz.prog 5 [.agg #[.int .i64 th,.int .i64 va,.int .i64 vo,.int .i64 lk,.slice ao n c]] [A] (fun (_:Unit)=>.tuple #[.pointer none,.int .i64 5]) (fun _=>True) (fun _=>[A]):=by
 refine kS (n:=23) Tryz.func5 J J J ?_
 intro Γ w0
 simp only [argE,Ca,Na,Zd,Nat.reduceAdd]
 refine qL (qC ((.l 0 [] (.q 1 (.q 2 (.done))))) Kr ?_)
 refine sG J J J J (us:=[_,_,_,_,_]) J ?_
 intro b1
 refine qV (qR J J J J (qR J J J J (qS (qQ (qL (qC (.q 0 ((.l 1 [] (.q 2 (.q 3 (.q 4 (.q 5 (.q 6 (.done))))))))) Kr ?_))))))
 refine kC J J J J α'24 ζ'24 Tk 0 (us:=[_,_,_,_,_]) Az J J ?_
 have sp_1:=Dj.beginbad_spec th va vo lk pl ao n c A hr hn hb hok
 refine qB J J J J J J Tryz.call16 (sp_1) Ts ?_
 rintro ⟨⟩ -
 try simp only [Ca,Na]
 refine qV (qK J J J J (kX J J J J J (kX J J J J J (qR J J J J (qR J J J J (qS (qW [1,4,5] (e':=[(1,_),(4,_),(5,_)]) J ?_)))))))
 refine qQ (qL (qL (qC (.q 0 (.q 1 (.done))) Kr ?_)))
 refine qK J J J J (qD J J J J J (b_neq _ _ _ _) ?_)
 refine kF 12 J (v':=.bool true) (by first | rfl | simp) ?_
 refine qS (qQ (cC J ?_))
 refine qL (qC (.q 0 (.q 1 (.q 2 (.done)))) Kr ?_)
 refine qK J J J J (qR J J J J (qR J J J J (qS (qW [2,3] (e':=[(2,_),(3,_)]) J ?_))))
 refine qQ (qJ (qN (ret2 J J J (()) (by first | rfl | (first | rfl | (congr 1;done) | (congr 1 <;> first | rfl | omega | (simp;done) | (simp;omega)))) (by trivial) ?_)))
 exact Tf
theorem touched_spec (b mk:Nat) (v0 v1 v2:Value) (F:Int × Int→Option Tch) (o t:Int):Spec Tryz.prog 62 [.pointer (some ⟨b,0,none⟩),.int .i64 o,.int .i64 t] [cells b 0 [v0,v1,v2,.map (some mk)],mapO ek2 evT mk F] (fun (_:Unit)=>evT ((F (o,t)).getD (-1,-1,0,0))) (fun _=>True) (fun _=>[cells b 0 [v0,v1,v2,.map (some mk)],mapO ek2 evT mk F]):=by
 refine kS (n:=23) Tryz.func62 J J J ?_
 intro Γ w0
 simp only [argE,Ca,Na,Zd,Nat.reduceAdd]
 refine qL (qC ((.l 0 [] (.done))) Kr ?_)
 refine cY J J J ω'119 (zs:=[.int .i64 0,.int .i64 0,.int .u64 0,.int .u64 0]) J ?_
 intro b6
 refine qV (qS (qQ (qL (qL (qC (.q 0 (.q 1 (.q 2 (.q 3 (.q 4 (.q 5 (.q 6 (.q 7 (.q 8 (.q 9 (.q 10 ((.l 11 [] ((.l 12 [] (.q 13 (.done))))))))))))))))) Kr ?_)))))
 refine qK J J J J (qZ J J J J (qG (k:=3) J J J J υ'48 J ζ'46 J ?_))
 refine qP (j:=3) J J J J α'46 Tk Az (by rfl) ?_
 refine qK J J J J (qK J J J J (kB J J J J (vs:=[_,_]) (kQ υ'117 ω'117 (ps:=[(0,1),(1,1)]) ⟨rfl,ζ'3,rfl,ζ'3,trivial⟩ rfl) ?_))
 refine q_lookup2 (ek:=ek2) (ev1:=evT) (F:=F) (m:=mk) (k:=(o,t)) ((0,0,0,0):Tch) J J J J J υ'46 (sH υ'117 J J J J υ'3 υ'3 α'3 α'3 Kr) ω'119 Tk ?_
 refine qK J J J J (kX J J J J J (kX J J J J J (cY J J J ω'119 (zs:=[.int .i64 0,.int .i64 0,.int .u64 0,.int .u64 0]) J ?_)))
 intro b7
 refine qV (kR (j:=0) J J J J ζ'119 (us:=[_,_,_,_]) J J J Tk Az (by first | decide | (simp;done) | omega) ?_)
 simp only [setL,List.set]
 refine qV (qR J J J J (qS (qW [6,7,8] (e':=[(6,_),(7,_),(8,_)]) J ?_)))
 refine qQ (qL (qC (.q 0 (.done)) Kr ?_))
 refine qK J J J J (qS (qQ ?_))
 refine c_cond J (fun hk=>?_) (fun hk=>?_)
 ·
  try simp only [Bool.and_eq_true,Bool.or_eq_true,Bool.not_eq_true',Bool.not_eq_false',Bool.and_eq_false_iff,Bool.or_eq_false_iff,decide_eq_true_eq,decide_eq_false_iff_not] at hk
  obtain ⟨w,hw⟩:=Option.isSome_iff_exists.1 hk
  refine qL (qC (.q 0 ((.l 1 [] (.done)))) Kr ?_)
  refine kC J J J J α'119 ζ'119 Tk 0 (us:=[_,_,_,_]) Az J J ?_
  refine kR (j:=0) J J J J ζ'119 (us:=[_,_,_,_]) J J J Tk Az (by first | decide | (simp;done) | omega) ?_
  simp only [setL,List.set]
  refine qV (qS (qW [6] (e':=[(6,_)]) J ?_))
  refine qQ (qJ (qN (retL (us:=[_]) J ⟨cH J α'119 ζ'119 Tk 0 J (us:=[_,_,_,_]) J J,trivial⟩ (()) (by rw [hw];rfl) (by trivial) ?_)))
  exact Tf
 try simp only [Bool.and_eq_true,Bool.or_eq_true,Bool.not_eq_true',Bool.not_eq_false',Bool.and_eq_false_iff,Bool.or_eq_false_iff,decide_eq_true_eq,decide_eq_false_iff_not] at hk
 have hw:F (o,t)=none:=by simpa using hk
 refine qH (qQ (qL (qC (.q 0 ((.l 1 [] (.done)))) Kr ?_)))
 refine kB J J J J (vs:=[_,_,_,_]) (kQ υ'119 ω'119 (ps:=[(0,1),(1,1),(2,1),(3,1)]) ⟨rfl,ζ'3,rfl,ζ'3,rfl,ζ'97,rfl,ζ'97,trivial⟩ rfl) ?_
 refine kR (j:=0) J J J J ζ'119 (us:=[_,_,_,_]) J J J Tk Az (by first | decide | (simp;done) | omega) ?_
 simp only [setL,List.set]
 refine qV (qS (qW [6] (e':=[(6,_)]) J ?_))
 refine qQ (qJ (retL (us:=[_]) J ⟨cH J α'119 ζ'119 Tk 0 J (us:=[_,_,_,_]) J J,trivial⟩ (()) (by rw [hw];rfl) (by trivial) ?_))
 exact Tf
theorem against_spec (b vb mk m1 tb:Nat) (v1 v2 u0 u1 u3 u4 u5:Value) (F:Int × Int→Option Tch) (F1:Int→Option (Option Addr)) (ta:Option Addr) (tc:Nat) (l:List Int) (K:List (Int × Int)) (k t o:Int) (hF1:F1 t=some (some ⟨tb,0,none⟩)) (hKn:K.Nodup) (hks:∀ q,q∈K↔(F q).isSome=true) (hkt:∀ q∈K,0≤q.2) (hKl:K.length≤4000000000000):Spec Tryz.prog 25 [.pointer (some ⟨b,0,none⟩),.agg #[.int .i64 k,.int .i64 t,.int .i64 o]] [cells b 0 [.pointer (some ⟨vb,0,none⟩),v1,v2,.map (some mk)],cells vb 0 [u0,u1,.map (some m1),u3,u4,u5],mapO ek2 evT mk F,mapO ekZ evA m1 F1,cells tb 0 [.slice ta l.length tc],own 1 encU ta tc l] (fun (r:Option Addr × Nat)=>.slice r.1 (if k=1∨k=2 then isort (K.flatMap (agK F k t o l)) else []).length r.2) (fun r=>True) (fun r=>[cells b 0 [.pointer (some ⟨vb,0,none⟩),v1,v2,.map (some mk)],cells vb 0 [u0,u1,.map (some m1),u3,u4,u5],mapO ek2 evT mk F,mapO ekZ evA m1 F1,cells tb 0 [.slice ta l.length tc],own 1 encU ta tc l,own 1 encZ r.1 r.2 (if k=1∨k=2 then isort (K.flatMap (agK F k t o l)) else [])]):=by
 refine kS (n:=89) Tryz.func25 J J J ?_
 intro Γ w0
 simp only [argE,Ca,Na,Zd,Nat.reduceAdd]
 refine qL (qC ((.l 0 [] (.q 1 (.done)))) Kr ?_)
 refine sG J J J J (us:=[_,_,_]) J ?_
 intro b3
 refine qV (qR J J J J (qS (qQ (qL (qL (qC (.q 0 (.q 1 (.q 2 (.q 3 (.q 4 (.q 5 (.q 6 (.q 7 (.done))))))))) Kr ?_))))))
 refine qG (k:=0) J J J J υ'52 J ζ'50 J ?_
 refine qP (j:=0) J J J J α'50 Tk Az (by rfl) ?_
 refine qD J J J J J (b_neq _ _ _ _) ?_
 refine qK J J J J ?_
 refine cV 13 J (fun k1=>?_) (fun k1=>?_)
 ·
  refine qG (k:=0) J J J J υ'52 J ζ'50 J ?_
  refine qP (j:=0) J J J J α'50 Tk Az (by rfl) ?_
  refine qD J J J J J (b_neq _ _ _ _) ?_
  refine kL J J J J J (qS (qW [0,3,17] (e':=[(0,_),(3,_),(17,_)]) J ?_))
  refine qQ ?_
  refine qF J (fun k2=>?_) (fun k2=>?_)
  ·
   have hk:¬ (k=1∨k=2):=by omega
   refine qL (qC (.q 0 (.done)) Kr ?_)
   refine qR J J J J (qS (qQ (qJ (qN (cL (fun _ h=>sY (sz:=1) (enc:=encZ) h) ?_)))))
   rw [if_neg hk]
   refine cR J J ((none,0)) (by rfl) (by trivial) ?_
   exact Tf
  have hk:k=1∨k=2:=by omega
  refine qH (qQ (qL (qC (.q 0 (.done)) Kr ?_)))
  refine qR J J J J (qS (qQ (qL (kM J (.q 0 (.q 1 (.q 2 (.q 3 (.q 4 (.q 5 (.q 6 (.q 7 (.q 8 (.q 9 (.q 10 (.done)))))))))))) Kr ?_))))
  refine qK J J J J (qZ J J J J (qG (k:=0) J J J J υ'48 J ζ'44 J ?_))
  refine qP (j:=0) J J J J α'44 Tk Az (by rfl) ?_
  refine qZ J J J J (qG (k:=2) J J J J υ'86 J ζ'83 J ?_)
  refine qP (j:=2) J J J J α'83 Tk Az (by rfl) ?_
  refine qG (k:=1) J J J J υ'52 J ζ'3 J ?_
  refine qP (j:=1) J J J J α'3 Tk Az (by rfl) ?_
  refine rP (ek:=ekZ) (ev1:=evA) (F:=F1) (m:=m1) (k:=t) none J J J J J υ'83 (cD υ'3) ω'94 Tk ?_
  refine kF 27 J (v':=.pointer (some ⟨tb,0,none⟩)) (by rw [hF1];rfl) ?_
  refine qR J J J J (qS (qW [0,3,5,6] (e':=[(0,_),(3,_),(5,_),(6,_)]) J ?_))
  refine qQ (qL (qL (qC (.q 0 (.q 1 (.q 2 (.q 3 ((.l 4 [] (.done))))))) Kr ?_)))
  refine qK J J J J (qZ J J J J (qG (k:=3) J J J J υ'48 J ζ'46 J ?_))
  refine qP (j:=3) J J J J α'46 Tk Az (by rfl) ?_
  refine l_range (ek:=ek2) (ev1:=evT) (F:=F) (m:=mk) J J J J υ'46 Tk ?_
  intro rr N_rr
  refine qV (qS (qW [3,5,6,32] (e':=[(3,_),(5,_),(6,_),(32,_)]) J ?_))
  refine qQ (kV (cL (fun _ h=>sY (sz:=1) (enc:=encZ) h) ?_))
  refine sS (α:=List (Int × Int) × List Int × Option Addr × Nat) (fun (x_:List (Int × Int) × List Int × Option Addr × Nat)=>match x_ with | (vis,L,la,lc)=>vis.Nodup∧(∀ q∈vis,q∈K)∧L=vis.flatMap (agK F k t o l)) (fun (x_:List (Int × Int) × List Int × Option Addr × Nat)=>match x_ with | (vis,L,la,lc)=>[(5,.slice la L.length lc)]) (fun (x_:List (Int × Int) × List Int × Option Addr × Nat)=>match x_ with | (vis,L,la,lc)=>[rng ek2 evT rr mk F vis N_rr,own 1 encZ la lc L]) (fun (x_:List (Int × Int) × List Int × Option Addr × Nat)=>match x_ with | (vis,L,la,lc)=>N_rr - vis.length) [3,6,32] (er:=[(3,_),(6,_),(32,_)]) J (([]:List (Int × Int)),([]:List Int),none,0) ?_ (by exact ⟨rfl,trivial⟩) (by (try dsimp only);(try simp only [Ad,Zd]);(repeat ((with_reducible apply Z2);focus (first | (with_reducible (repeat (first | exact Z0 | apply Z1));done) | (repeat (first | exact Z0 | apply Z1)))));exact Z3) ?_
  · exact ⟨List.nodup_nil,fun q h=>(by simp at h),rfl⟩
  rintro ⟨vis,L,la,lc⟩ ⟨hnd,hvk,hL⟩
  try simp only [Ca,Na]
  have hvl:=nodup_sub_len hnd hvk
  have hLl:L.length≤2*vis.length:=by rw [hL];exact rG (agK_len _ _ _ _ _) _
  refine qL (qC ((.l 0 [] (.q 1 (.done)))) Kr ?_)
  refine l_next (ek:=ek2) (ev1:=evT) (F:=F) (m:=mk) (vis:=vis) (N:=N_rr) J J J J (by assumption) Tk ?_ ?_
  ·
   intro hall hex
   refine qV (kX J J J J J (qS (qQ (qL (kN J ?_)))))
   refine cS (qY (qY (kK (qQ (qL (qC (.q 0 ((.l 1 [] (.done)))) Kr ?_))))))
   refine qK J J J J ?_
   have sp_1:=So.sort_spec la L.length lc L Ln Om
   refine qB J J J J J J Tryz.call59 (sp_1) Ts ?_
   rintro ⟨⟩ -
   try simp only [Ca,Na]
   refine qV (qS (qW [5] (e':=[(5,_)]) J ?_))
   refine qQ (qL (qC (.q 0 (.q 1 (.done))) Kr ?_))
   refine qK J J J J (qR J J J J (qS (qQ (qJ ?_))))
   have hp:vis.Perm K:=(List.perm_ext_iff_of_nodup hnd hKn).2 fun z=>⟨hvk z,fun h=>(by obtain ⟨u,hu⟩:=Option.isSome_iff_exists.1 ((hks z).1 h);exact hall z u hu)⟩
   rw [if_pos hk,srt_eq (show L.Perm (K.flatMap (agK F k t o l)) by rw [hL];exact flat_perm _ hp)]
   refine cR J J ((la,lc)) (by rw [isort_len,← (flat_perm (agK F k t o l) hp).length_eq,← hL]) (by trivial) ?_
   exact Tf
  intro q w hkv hnk hltN
  refine qV ?_
  have hqk:=(hks q).2 (by rw [hkv];rfl)
  have hq0:=hkt q hqk
  refine kX J J J J J (qS (qQ (qL (cC J ?_))))
  refine qH (qQ (kV (qL (qC (.q 0 (.q 1 (.q 2 ((.l 3 [] ((.l 4 [] ((.l 5 [] ((.l 6 [] (.done)))))))))))) Kr ?_))))
  refine q_entry (ek:=ek2) (ev1:=evT) (F:=F) (m:=mk) (vis:=vis) (N:=N_rr) (k:=q) (v:=w) J J J J hkv Tk ?_
  refine kX J J J J J (kX J J J J J (cY J J J ω'117 (zs:=[.int .i64 0,.int .i64 0]) J ?_))
  intro b7
  refine qV (cY J J J ω'119 (zs:=[.int .i64 0,.int .i64 0,.int .u64 0,.int .u64 0]) J ?_)
  intro b8
  refine qV (kR (j:=0) J J J J Tryz.sizeOf117 (us:=[_,_]) J J J Tk Az (by first | decide | (simp;done) | omega) ?_)
  simp only [setL,List.set]
  refine qV (kR (j:=0) J J J J ζ'119 (us:=[_,_,_,_]) J J J Tk Az (by first | decide | (simp;done) | omega) ?_)
  simp only [setL,List.set]
  refine qV (qS (qW [3,5,6,7,8,32] (e':=[(3,_),(5,_),(6,_),(7,_),(8,_),(32,_)]) J ?_))
  refine qQ (qL (qL (qC (.q 0 (.q 1 (.q 2 (.q 3 (.q 4 (.q 5 (.q 6 (.q 7 (.q 8 (.q 9 (.q 10 (.q 11 (.done))))))))))))) Kr ?_)))
  refine qG (k:=0) J J J J υ'117 J ζ'3 J ?_
  refine qP (j:=0) J J J J α'3 Tk Az (by rfl) ?_
  refine qG (k:=2) J J J J υ'52 J ζ'3 J ?_
  refine qP (j:=2) J J J J α'3 Tk Az (by rfl) ?_
  refine qD J J J J J (b_neq _ _ _ _) ?_
  refine qK J J J J ?_
  refine cV 43 J (fun s0=>?_) (fun s0=>?_)
  ·
   refine qX J J J J (qX J J J J (qX J J J J (qX J J J J (qX J J J J (kL J J J J J (qS (qW [3,5,6,7,8,32,44,45,46,47,48,49] (e':=[(3,_),(5,_),(6,_),(7,_),(8,_),(32,_),(44,_),(45,_),(46,_),(47,_),(48,_),(49,_)]) J ?_)))))))
   refine qQ (cC J ?_)
   refine cS (qY (kK (qQ ?_)))
   refine kZ (x:=(vis,L,la,lc)) ((vis++[q],L,la,lc)) ?_ ?_ ?_ ?_
   · try dsimp only
     exact ⟨nodup_snoc hnd hnk,fun z hz=>(List.mem_append.1 hz).elim (hvk z) (fun h=>(List.mem_singleton.1 h) ▸ hqk),by rw [flat_snoc,← hL];(rw [agK_s (by first | exact .inl s0 | exact .inr s1),List.append_nil];done)⟩
   · show N_rr - (vis++[q]).length < N_rr - vis.length;rw [List.length_append];simp;omega
   · exact ⟨rfl,rfl,rfl,rfl,trivial⟩
   · (try simp only [Ca,Na]);exact Tf
  refine qG (k:=1) J J J J υ'117 J ζ'3 J ?_
  refine qP (j:=1) J J J J α'3 Tk Az (by rfl) ?_
  refine qG (k:=1) J J J J υ'52 J ζ'3 J ?_
  refine qP (j:=1) J J J J α'3 Tk Az (by rfl) ?_
  refine qD J J J J J (cZ _ _ _ _) ?_
  refine kD J J J J J (qS (qW [3,5,6,7,8,32,44,45,46,47,48,49] (e':=[(3,_),(5,_),(6,_),(7,_),(8,_),(32,_),(44,_),(45,_),(46,_),(47,_),(48,_),(49,_)]) J ?_))
  refine qQ ?_
  refine qF J (fun s1=>?_) (fun s1=>?_)
  ·
   refine cS (qY (kK (qQ ?_)))
   refine kZ (x:=(vis,L,la,lc)) ((vis++[q],L,la,lc)) ?_ ?_ ?_ ?_
   · try dsimp only
     exact ⟨nodup_snoc hnd hnk,fun z hz=>(List.mem_append.1 hz).elim (hvk z) (fun h=>(List.mem_singleton.1 h) ▸ hqk),by rw [flat_snoc,← hL];(rw [agK_s (by first | exact .inl s0 | exact .inr s1),List.append_nil];done)⟩
   · show N_rr - (vis++[q]).length < N_rr - vis.length;rw [List.length_append];simp;omega
   · exact ⟨rfl,rfl,rfl,rfl,trivial⟩
   · (try simp only [Ca,Na]);exact Tf
  refine qH (qQ (qL (qC (.q 0 (.q 1 (.q 2 ((.l 3 [] (.q 4 (.done))))))) Kr ?_)))
  refine qK J J J J (qG (k:=1) J J J J υ'117 J ζ'3 J ?_)
  refine qP (j:=1) J J J J α'3 Tk Az (by rfl) ?_
  have sp_2:=get_z tb l ta l.length tc Ln q.2 Om
  refine qB J J J J J J κ'58 (sp_2) Ts ?_
  rintro ⟨⟩ -
  try simp only [Ca,Na]
  refine qV (qR J J J J (qS (qW [3,5,6,8,9,32,44,45,46,47,48] (e':=[(3,_),(5,_),(6,_),(8,_),(9,_),(32,_),(44,_),(45,_),(46,_),(47,_),(48,_)]) J ?_)))
  refine qQ (kV (qL (kV (qL (kV (qL (qL (qC (.q 0 (.q 1 (.q 2 (.q 3 (.done))))) Kr ?_))))))))
  refine qG (k:=0) J J J J υ'52 J ζ'50 J ?_
  refine qP (j:=0) J J J J α'50 Tk Az (by rfl) ?_
  refine qD J J J J J (cZ _ _ _ _) ?_
  refine qR J J J J (qS (qQ ?_))
  refine qF J (fun k3=>?_) (fun k3=>?_)
  ·
   refine cS (qY (kK (qQ (qL (qC (.q 0 (.q 1 (.q 2 (.q 3 (.q 4 (.q 5 (.q 6 (.q 7 (.q 8 (.done)))))))))) Kr ?_)))))
   refine qG (k:=0) J J J J υ'119 J ζ'3 J ?_
   refine qP (j:=0) J J J J α'3 Tk Az (by rfl) ?_
   refine qD J J J J J (b_geq _ _ _ _) ?_
   refine qK J J J J ?_
   refine cV 61 J (fun r0=>?_) (fun r0=>?_)
   ·
    refine qG (k:=2) J J J J υ'119 J ζ'97 J ?_
    refine qP (j:=2) J J J J α'97 Tk Az (by rfl) ?_
    refine qK J J J J (qD J J J J J (b_gtr _ _ _ _) ?_)
    refine kL J J J J J (qS (qW [3,5,6,8,9,32,44,45,46,47,48,62,63,64,65,66] (e':=[(3,_),(5,_),(6,_),(8,_),(9,_),(32,_),(44,_),(45,_),(46,_),(47,_),(48,_),(62,_),(63,_),(64,_),(65,_),(66,_)]) J ?_))
    refine qQ ?_
    refine qF J (fun r1=>?_) (fun r1=>?_)
    ·
     refine qC (.q 0 (.q 1 (.q 2 ((.l 3 [] ((.l 4 [] (.q 5 (.done))))))))) Kr ?_
     refine qK J J J J (qG (k:=0) J J J J υ'119 J ζ'3 J ?_)
     refine qP (j:=0) J J J J α'3 Tk Az (by rfl) ?_
     refine kJ J J J J (cW (us:=[_]) υ'22 ζ'3 J ω'3 J J J) ?_
     intro b70
     refine qV (cN (sz:=1) (enc:=encZ) (xs:=L) J J J J J υ'22 τ'3 J J J (by decide) Tk Tk (by first | rfl | omega | (simp;done) | (simp;omega)) (ys:=[w.1]) (cJ cB) (by rfl) (by first | rfl | omega) (encZ_len) (encZ_one) Om (by show _*8≤_;omega) ?_)
     intro ao71 cp71
     refine qV (qR J J J J (qS (qW [3,5,6,8,9,32,44,45,46,47,48,62,63,64,65] (e':=[(3,_),(5,_),(6,_),(8,_),(9,_),(32,_),(44,_),(45,_),(46,_),(47,_),(48,_),(62,_),(63,_),(64,_),(65,_)]) J ?_)))
     refine kG (qQ (qL (qL (qC (.q 0 (.q 1 (.q 2 (.q 3 (.q 4 (.q 5 (.q 6 (.q 7 (.q 8 (.done)))))))))) Kr ?_))))
     refine qG (k:=1) J J J J υ'119 J ζ'3 J ?_
     refine qP (j:=1) J J J J α'3 Tk Az (by rfl) ?_
     refine qD J J J J J (b_geq _ _ _ _) ?_
     refine qK J J J J ?_
     refine cV 75 J (fun w0=>?_) (fun w0=>?_)
     ·
      refine qG (k:=3) J J J J υ'119 J ζ'97 J ?_
      refine qP (j:=3) J J J J α'97 Tk Az (by rfl) ?_
      refine qK J J J J (qD J J J J J (b_gtr _ _ _ _) ?_)
      refine kL J J J J J (qS (qW [3,5,6,8,32,44,45,46,47,48,62,63,64,65,76,77,78,79,80] (e':=[(3,_),(5,_),(6,_),(8,_),(32,_),(44,_),(45,_),(46,_),(47,_),(48,_),(62,_),(63,_),(64,_),(65,_),(76,_),(77,_),(78,_),(79,_),(80,_)]) J ?_))
      refine qQ ?_
      refine qF J (fun w1=>?_) (fun w1=>?_)
      ·
       refine qC (.q 0 (.q 1 (.q 2 ((.l 3 [] ((.l 4 [] (.q 5 (.done))))))))) Kr ?_
       refine qK J J J J (qG (k:=1) J J J J υ'119 J ζ'3 J ?_)
       refine qP (j:=1) J J J J α'3 Tk Az (by rfl) ?_
       refine kJ J J J J (cW (us:=[_]) υ'22 ζ'3 J ω'3 J J J) ?_
       intro b84
       refine qV (cN (sz:=1) (enc:=encZ) (xs:=(L++([w.1]))) J J J J J υ'22 τ'3 J J J (by decide) Tk Tk (by first | rfl | omega | (simp;done) | (simp;omega)) (ys:=[w.2.1]) (cJ cB) (by rfl) (by first | rfl | omega) (encZ_len) (encZ_one) Om (by show _*8≤_;omega) ?_)
       intro ao85 cp85
       refine qV (qR J J J J (qS (qW [3,5,6,32,44,45,46,47,48,62,63,64,65,76,77,78,79] (e':=[(3,_),(5,_),(6,_),(32,_),(44,_),(45,_),(46,_),(47,_),(48,_),(62,_),(63,_),(64,_),(65,_),(76,_),(77,_),(78,_),(79,_)]) J ?_)))
       refine qQ (cS (kK (kG (qQ (kF 5 J (v':=.slice ao85 ((L++([w.1]))++([w.2.1])).length cp85) (by first | rfl | (congr 1;done) | (congr 1 <;> first | rfl | omega | (simp;done) | (simp;omega))) ?_)))))
       refine kZ (x:=(vis,L,la,lc)) ((vis++[q],((L++([w.1]))++([w.2.1])),ao85,cp85)) ?_ ?_ ?_ ?_
       · try dsimp only
         exact ⟨nodup_snoc hnd hnk,fun z hz=>(List.mem_append.1 hz).elim (hvk z) (fun h=>(List.mem_singleton.1 h) ▸ hqk),by rw [flat_snoc,← hL];(rw [agK_go (by first | assumption | omega) (by first | assumption | omega) hkv];split <;> split <;> first | (exfalso;omega) | simp;done)⟩
       · show N_rr - (vis++[q]).length < N_rr - vis.length;rw [List.length_append];simp;omega
       · exact ⟨rfl,rfl,rfl,rfl,trivial⟩
       · (try simp only [Ca,Na]);exact Tf
      refine qH (qQ (cS (kK (kG (qQ (kF 5 J (v':=.slice ao71 (L++([w.1])).length cp71) (by first | rfl | (congr 1;done) | (congr 1 <;> first | rfl | omega | (simp;done) | (simp;omega))) ?_))))))
      refine kZ (x:=(vis,L,la,lc)) ((vis++[q],(L++([w.1])),ao71,cp71)) ?_ ?_ ?_ ?_
      · try dsimp only
        exact ⟨nodup_snoc hnd hnk,fun z hz=>(List.mem_append.1 hz).elim (hvk z) (fun h=>(List.mem_singleton.1 h) ▸ hqk),by rw [flat_snoc,← hL];(rw [agK_go (by first | assumption | omega) (by first | assumption | omega) hkv];split <;> split <;> first | (exfalso;omega) | simp;done)⟩
      · show N_rr - (vis++[q]).length < N_rr - vis.length;rw [List.length_append];simp;omega
      · exact ⟨rfl,rfl,rfl,rfl,trivial⟩
      · (try simp only [Ca,Na]);exact Tf
     refine qX J J J J (qX J J J J (qX J J J J (qX J J J J (kD J J J J J (qS (qW [3,5,6,8,32,44,45,46,47,48,62,63,64,65,76,77,78,79,80] (e':=[(3,_),(5,_),(6,_),(8,_),(32,_),(44,_),(45,_),(46,_),(47,_),(48,_),(62,_),(63,_),(64,_),(65,_),(76,_),(77,_),(78,_),(79,_),(80,_)]) J ?_))))))
     refine qQ (kN J ?_)
     refine qH (qQ (cS (kK (kG (qQ (kF 5 J (v':=.slice ao71 (L++([w.1])).length cp71) (by first | rfl | (congr 1;done) | (congr 1 <;> first | rfl | omega | (simp;done) | (simp;omega))) ?_))))))
     refine kZ (x:=(vis,L,la,lc)) ((vis++[q],(L++([w.1])),ao71,cp71)) ?_ ?_ ?_ ?_
     · try dsimp only
       exact ⟨nodup_snoc hnd hnk,fun z hz=>(List.mem_append.1 hz).elim (hvk z) (fun h=>(List.mem_singleton.1 h) ▸ hqk),by rw [flat_snoc,← hL];(rw [agK_go (by first | assumption | omega) (by first | assumption | omega) hkv];split <;> split <;> first | (exfalso;omega) | simp;done)⟩
     · show N_rr - (vis++[q]).length < N_rr - vis.length;rw [List.length_append];simp;omega
     · exact ⟨rfl,rfl,rfl,rfl,trivial⟩
     · (try simp only [Ca,Na]);exact Tf
    refine qH (kG (qQ (qL (qL (qC (.q 0 (.q 1 (.q 2 (.q 3 (.q 4 (.q 5 (.q 6 (.q 7 (.q 8 (.done)))))))))) Kr ?_)))))
    refine qG (k:=1) J J J J υ'119 J ζ'3 J ?_
    refine qP (j:=1) J J J J α'3 Tk Az (by rfl) ?_
    refine qD J J J J J (b_geq _ _ _ _) ?_
    refine qK J J J J ?_
    refine cV 75 J (fun w0=>?_) (fun w0=>?_)
    ·
     refine qG (k:=3) J J J J υ'119 J ζ'97 J ?_
     refine qP (j:=3) J J J J α'97 Tk Az (by rfl) ?_
     refine qK J J J J (qD J J J J J (b_gtr _ _ _ _) ?_)
     refine kL J J J J J (qS (qW [3,5,6,8,32,44,45,46,47,48,62,63,64,65,76,77,78,79,80] (e':=[(3,_),(5,_),(6,_),(8,_),(32,_),(44,_),(45,_),(46,_),(47,_),(48,_),(62,_),(63,_),(64,_),(65,_),(76,_),(77,_),(78,_),(79,_),(80,_)]) J ?_))
     refine qQ ?_
     refine qF J (fun w1=>?_) (fun w1=>?_)
     ·
      refine qC (.q 0 (.q 1 (.q 2 ((.l 3 [] ((.l 4 [] (.q 5 (.done))))))))) Kr ?_
      refine qK J J J J (qG (k:=1) J J J J υ'119 J ζ'3 J ?_)
      refine qP (j:=1) J J J J α'3 Tk Az (by rfl) ?_
      refine kJ J J J J (cW (us:=[_]) υ'22 ζ'3 J ω'3 J J J) ?_
      intro b84
      refine qV (cN (sz:=1) (enc:=encZ) (xs:=L) J J J J J υ'22 τ'3 J J J (by decide) Tk Tk (by first | rfl | omega | (simp;done) | (simp;omega)) (ys:=[w.2.1]) (cJ cB) (by rfl) (by first | rfl | omega) (encZ_len) (encZ_one) Om (by show _*8≤_;omega) ?_)
      intro ao85 cp85
      refine qV (qR J J J J (qS (qW [3,5,6,32,44,45,46,47,48,62,63,64,65,76,77,78,79] (e':=[(3,_),(5,_),(6,_),(32,_),(44,_),(45,_),(46,_),(47,_),(48,_),(62,_),(63,_),(64,_),(65,_),(76,_),(77,_),(78,_),(79,_)]) J ?_)))
      refine qQ (cS (kK (kG (qQ (kF 5 J (v':=.slice ao85 (L++([w.2.1])).length cp85) (by first | rfl | (congr 1;done) | (congr 1 <;> first | rfl | omega | (simp;done) | (simp;omega))) ?_)))))
      refine kZ (x:=(vis,L,la,lc)) ((vis++[q],(L++([w.2.1])),ao85,cp85)) ?_ ?_ ?_ ?_
      · try dsimp only
        exact ⟨nodup_snoc hnd hnk,fun z hz=>(List.mem_append.1 hz).elim (hvk z) (fun h=>(List.mem_singleton.1 h) ▸ hqk),by rw [flat_snoc,← hL];(rw [agK_go (by first | assumption | omega) (by first | assumption | omega) hkv];split <;> split <;> first | (exfalso;omega) | simp;done)⟩
      · show N_rr - (vis++[q]).length < N_rr - vis.length;rw [List.length_append];simp;omega
      · exact ⟨rfl,rfl,rfl,rfl,trivial⟩
      · (try simp only [Ca,Na]);exact Tf
     refine qH (qQ (cS (kK (kG (qQ ?_)))))
     refine kZ (x:=(vis,L,la,lc)) ((vis++[q],L,la,lc)) ?_ ?_ ?_ ?_
     · try dsimp only
       exact ⟨nodup_snoc hnd hnk,fun z hz=>(List.mem_append.1 hz).elim (hvk z) (fun h=>(List.mem_singleton.1 h) ▸ hqk),by rw [flat_snoc,← hL];(rw [agK_go (by first | assumption | omega) (by first | assumption | omega) hkv];split <;> split <;> first | (exfalso;omega) | simp;done)⟩
     · show N_rr - (vis++[q]).length < N_rr - vis.length;rw [List.length_append];simp;omega
     · exact ⟨rfl,rfl,rfl,rfl,trivial⟩
     · (try simp only [Ca,Na]);exact Tf
    refine qX J J J J (qX J J J J (qX J J J J (qX J J J J (kD J J J J J (qS (qW [3,5,6,8,32,44,45,46,47,48,62,63,64,65,76,77,78,79,80] (e':=[(3,_),(5,_),(6,_),(8,_),(32,_),(44,_),(45,_),(46,_),(47,_),(48,_),(62,_),(63,_),(64,_),(65,_),(76,_),(77,_),(78,_),(79,_),(80,_)]) J ?_))))))
    refine qQ (kN J ?_)
    refine qH (qQ (cS (kK (kG (qQ ?_)))))
    refine kZ (x:=(vis,L,la,lc)) ((vis++[q],L,la,lc)) ?_ ?_ ?_ ?_
    · try dsimp only
      exact ⟨nodup_snoc hnd hnk,fun z hz=>(List.mem_append.1 hz).elim (hvk z) (fun h=>(List.mem_singleton.1 h) ▸ hqk),by rw [flat_snoc,← hL];(rw [agK_go (by first | assumption | omega) (by first | assumption | omega) hkv];split <;> split <;> first | (exfalso;omega) | simp;done)⟩
    · show N_rr - (vis++[q]).length < N_rr - vis.length;rw [List.length_append];simp;omega
    · exact ⟨rfl,rfl,rfl,rfl,trivial⟩
    · (try simp only [Ca,Na]);exact Tf
   refine qX J J J J (qX J J J J (qX J J J J (qX J J J J (kD J J J J J (qS (qW [3,5,6,8,9,32,44,45,46,47,48,62,63,64,65,66] (e':=[(3,_),(5,_),(6,_),(8,_),(9,_),(32,_),(44,_),(45,_),(46,_),(47,_),(48,_),(62,_),(63,_),(64,_),(65,_),(66,_)]) J ?_))))))
   refine qQ (kN J ?_)
   refine qH (kG (qQ (qL (qL (qC (.q 0 (.q 1 (.q 2 (.q 3 (.q 4 (.q 5 (.q 6 (.q 7 (.q 8 (.done)))))))))) Kr ?_)))))
   refine qG (k:=1) J J J J υ'119 J ζ'3 J ?_
   refine qP (j:=1) J J J J α'3 Tk Az (by rfl) ?_
   refine qD J J J J J (b_geq _ _ _ _) ?_
   refine qK J J J J ?_
   refine cV 75 J (fun w0=>?_) (fun w0=>?_)
   ·
    refine qG (k:=3) J J J J υ'119 J ζ'97 J ?_
    refine qP (j:=3) J J J J α'97 Tk Az (by rfl) ?_
    refine qK J J J J (qD J J J J J (b_gtr _ _ _ _) ?_)
    refine kL J J J J J (qS (qW [3,5,6,8,32,44,45,46,47,48,62,63,64,65,76,77,78,79,80] (e':=[(3,_),(5,_),(6,_),(8,_),(32,_),(44,_),(45,_),(46,_),(47,_),(48,_),(62,_),(63,_),(64,_),(65,_),(76,_),(77,_),(78,_),(79,_),(80,_)]) J ?_))
    refine qQ ?_
    refine qF J (fun w1=>?_) (fun w1=>?_)
    ·
     refine qC (.q 0 (.q 1 (.q 2 ((.l 3 [] ((.l 4 [] (.q 5 (.done))))))))) Kr ?_
     refine qK J J J J (qG (k:=1) J J J J υ'119 J ζ'3 J ?_)
     refine qP (j:=1) J J J J α'3 Tk Az (by rfl) ?_
     refine kJ J J J J (cW (us:=[_]) υ'22 ζ'3 J ω'3 J J J) ?_
     intro b84
     refine qV (cN (sz:=1) (enc:=encZ) (xs:=L) J J J J J υ'22 τ'3 J J J (by decide) Tk Tk (by first | rfl | omega | (simp;done) | (simp;omega)) (ys:=[w.2.1]) (cJ cB) (by rfl) (by first | rfl | omega) (encZ_len) (encZ_one) Om (by show _*8≤_;omega) ?_)
     intro ao85 cp85
     refine qV (qR J J J J (qS (qW [3,5,6,32,44,45,46,47,48,62,63,64,65,76,77,78,79] (e':=[(3,_),(5,_),(6,_),(32,_),(44,_),(45,_),(46,_),(47,_),(48,_),(62,_),(63,_),(64,_),(65,_),(76,_),(77,_),(78,_),(79,_)]) J ?_)))
     refine qQ (cS (kK (kG (qQ (kF 5 J (v':=.slice ao85 (L++([w.2.1])).length cp85) (by first | rfl | (congr 1;done) | (congr 1 <;> first | rfl | omega | (simp;done) | (simp;omega))) ?_)))))
     refine kZ (x:=(vis,L,la,lc)) ((vis++[q],(L++([w.2.1])),ao85,cp85)) ?_ ?_ ?_ ?_
     · try dsimp only
       exact ⟨nodup_snoc hnd hnk,fun z hz=>(List.mem_append.1 hz).elim (hvk z) (fun h=>(List.mem_singleton.1 h) ▸ hqk),by rw [flat_snoc,← hL];(rw [agK_go (by first | assumption | omega) (by first | assumption | omega) hkv];split <;> split <;> first | (exfalso;omega) | simp;done)⟩
     · show N_rr - (vis++[q]).length < N_rr - vis.length;rw [List.length_append];simp;omega
     · exact ⟨rfl,rfl,rfl,rfl,trivial⟩
     · (try simp only [Ca,Na]);exact Tf
    refine qH (qQ (cS (kK (kG (qQ ?_)))))
    refine kZ (x:=(vis,L,la,lc)) ((vis++[q],L,la,lc)) ?_ ?_ ?_ ?_
    · try dsimp only
      exact ⟨nodup_snoc hnd hnk,fun z hz=>(List.mem_append.1 hz).elim (hvk z) (fun h=>(List.mem_singleton.1 h) ▸ hqk),by rw [flat_snoc,← hL];(rw [agK_go (by first | assumption | omega) (by first | assumption | omega) hkv];split <;> split <;> first | (exfalso;omega) | simp;done)⟩
    · show N_rr - (vis++[q]).length < N_rr - vis.length;rw [List.length_append];simp;omega
    · exact ⟨rfl,rfl,rfl,rfl,trivial⟩
    · (try simp only [Ca,Na]);exact Tf
   refine qX J J J J (qX J J J J (qX J J J J (qX J J J J (kD J J J J J (qS (qW [3,5,6,8,32,44,45,46,47,48,62,63,64,65,76,77,78,79,80] (e':=[(3,_),(5,_),(6,_),(8,_),(32,_),(44,_),(45,_),(46,_),(47,_),(48,_),(62,_),(63,_),(64,_),(65,_),(76,_),(77,_),(78,_),(79,_),(80,_)]) J ?_))))))
   refine qQ (kN J ?_)
   refine qH (qQ (cS (kK (kG (qQ ?_)))))
   refine kZ (x:=(vis,L,la,lc)) ((vis++[q],L,la,lc)) ?_ ?_ ?_ ?_
   · try dsimp only
     exact ⟨nodup_snoc hnd hnk,fun z hz=>(List.mem_append.1 hz).elim (hvk z) (fun h=>(List.mem_singleton.1 h) ▸ hqk),by rw [flat_snoc,← hL];(rw [agK_go (by first | assumption | omega) (by first | assumption | omega) hkv];split <;> split <;> first | (exfalso;omega) | simp;done)⟩
   · show N_rr - (vis++[q]).length < N_rr - vis.length;rw [List.length_append];simp;omega
   · exact ⟨rfl,rfl,rfl,rfl,trivial⟩
   · (try simp only [Ca,Na]);exact Tf
  refine qH (qQ (cS (kP J ?_)))
  refine qY (kK (qQ (qL (qL (qC (.q 0 (.q 1 (.q 2 (.q 3 (.q 4 (.q 5 (.q 6 (.q 7 (.q 8 (.done)))))))))) Kr ?_)))))
  refine qG (k:=1) J J J J υ'119 J ζ'3 J ?_
  refine qP (j:=1) J J J J α'3 Tk Az (by rfl) ?_
  refine qD J J J J J (b_geq _ _ _ _) ?_
  refine qK J J J J ?_
  refine cV 75 J (fun w0=>?_) (fun w0=>?_)
  ·
   refine qG (k:=3) J J J J υ'119 J ζ'97 J ?_
   refine qP (j:=3) J J J J α'97 Tk Az (by rfl) ?_
   refine qK J J J J (qD J J J J J (b_gtr _ _ _ _) ?_)
   refine kL J J J J J (qS (qW [3,5,6,8,32,44,45,46,47,48,76,77,78,79,80] (e':=[(3,_),(5,_),(6,_),(8,_),(32,_),(44,_),(45,_),(46,_),(47,_),(48,_),(76,_),(77,_),(78,_),(79,_),(80,_)]) J ?_))
   refine qQ ?_
   refine qF J (fun w1=>?_) (fun w1=>?_)
   ·
    refine qC (.q 0 (.q 1 (.q 2 ((.l 3 [] ((.l 4 [] (.q 5 (.done))))))))) Kr ?_
    refine qK J J J J (qG (k:=1) J J J J υ'119 J ζ'3 J ?_)
    refine qP (j:=1) J J J J α'3 Tk Az (by rfl) ?_
    refine kJ J J J J (cW (us:=[_]) υ'22 ζ'3 J ω'3 J J J) ?_
    intro b84
    refine qV (cN (sz:=1) (enc:=encZ) (xs:=L) J J J J J υ'22 τ'3 J J J (by decide) Tk Tk (by first | rfl | omega | (simp;done) | (simp;omega)) (ys:=[w.2.1]) (cJ cB) (by rfl) (by first | rfl | omega) (encZ_len) (encZ_one) Om (by show _*8≤_;omega) ?_)
    intro ao85 cp85
    refine qV (qR J J J J (qS (qW [3,5,6,32,44,45,46,47,48,76,77,78,79] (e':=[(3,_),(5,_),(6,_),(32,_),(44,_),(45,_),(46,_),(47,_),(48,_),(76,_),(77,_),(78,_),(79,_)]) J ?_)))
    refine qQ (cS (kK (kG (qQ (kF 5 J (v':=.slice ao85 (L++([w.2.1])).length cp85) (by first | rfl | (congr 1;done) | (congr 1 <;> first | rfl | omega | (simp;done) | (simp;omega))) ?_)))))
    refine kZ (x:=(vis,L,la,lc)) ((vis++[q],(L++([w.2.1])),ao85,cp85)) ?_ ?_ ?_ ?_
    · try dsimp only
      exact ⟨nodup_snoc hnd hnk,fun z hz=>(List.mem_append.1 hz).elim (hvk z) (fun h=>(List.mem_singleton.1 h) ▸ hqk),by rw [flat_snoc,← hL];(rw [agK_go (by first | assumption | omega) (by first | assumption | omega) hkv];split <;> split <;> first | (exfalso;omega) | simp;done)⟩
    · show N_rr - (vis++[q]).length < N_rr - vis.length;rw [List.length_append];simp;omega
    · exact ⟨rfl,rfl,rfl,rfl,trivial⟩
    · (try simp only [Ca,Na]);exact Tf
   refine qH (qQ (cS (kK (kG (qQ ?_)))))
   refine kZ (x:=(vis,L,la,lc)) ((vis++[q],L,la,lc)) ?_ ?_ ?_ ?_
   · try dsimp only
     exact ⟨nodup_snoc hnd hnk,fun z hz=>(List.mem_append.1 hz).elim (hvk z) (fun h=>(List.mem_singleton.1 h) ▸ hqk),by rw [flat_snoc,← hL];(rw [agK_go (by first | assumption | omega) (by first | assumption | omega) hkv];split <;> split <;> first | (exfalso;omega) | simp;done)⟩
   · show N_rr - (vis++[q]).length < N_rr - vis.length;rw [List.length_append];simp;omega
   · exact ⟨rfl,rfl,rfl,rfl,trivial⟩
   · (try simp only [Ca,Na]);exact Tf
  refine qX J J J J (qX J J J J (qX J J J J (qX J J J J (kD J J J J J (qS (qW [3,5,6,8,32,44,45,46,47,48,76,77,78,79,80] (e':=[(3,_),(5,_),(6,_),(8,_),(32,_),(44,_),(45,_),(46,_),(47,_),(48,_),(76,_),(77,_),(78,_),(79,_),(80,_)]) J ?_))))))
  refine qQ (kN J ?_)
  refine qH (qQ (cS (kK (kG (qQ ?_)))))
  refine kZ (x:=(vis,L,la,lc)) ((vis++[q],L,la,lc)) ?_ ?_ ?_ ?_
  · try dsimp only
    exact ⟨nodup_snoc hnd hnk,fun z hz=>(List.mem_append.1 hz).elim (hvk z) (fun h=>(List.mem_singleton.1 h) ▸ hqk),by rw [flat_snoc,← hL];(rw [agK_go (by first | assumption | omega) (by first | assumption | omega) hkv];split <;> split <;> first | (exfalso;omega) | simp;done)⟩
  · show N_rr - (vis++[q]).length < N_rr - vis.length;rw [List.length_append];simp;omega
  · exact ⟨rfl,rfl,rfl,rfl,trivial⟩
  · (try simp only [Ca,Na]);exact Tf
 refine qX J J J J (qX J J J J (qX J J J J (kD J J J J J (qS (qW [0,3,17] (e':=[(0,_),(3,_),(17,_)]) J ?_)))))
 refine qQ (kN J ?_)
 have hk:k=1∨k=2:=by omega
 refine qH (qQ (qL (qC (.q 0 (.done)) Kr ?_)))
 refine qR J J J J (qS (qQ (qL (kM J (.q 0 (.q 1 (.q 2 (.q 3 (.q 4 (.q 5 (.q 6 (.q 7 (.q 8 (.q 9 (.q 10 (.done)))))))))))) Kr ?_))))
 refine qK J J J J (qZ J J J J (qG (k:=0) J J J J υ'48 J ζ'44 J ?_))
 refine qP (j:=0) J J J J α'44 Tk Az (by rfl) ?_
 refine qZ J J J J (qG (k:=2) J J J J υ'86 J ζ'83 J ?_)
 refine qP (j:=2) J J J J α'83 Tk Az (by rfl) ?_
 refine qG (k:=1) J J J J υ'52 J ζ'3 J ?_
 refine qP (j:=1) J J J J α'3 Tk Az (by rfl) ?_
 refine rP (ek:=ekZ) (ev1:=evA) (F:=F1) (m:=m1) (k:=t) none J J J J J υ'83 (cD υ'3) ω'94 Tk ?_
 refine kF 27 J (v':=.pointer (some ⟨tb,0,none⟩)) (by rw [hF1];rfl) ?_
 refine qR J J J J (qS (qW [0,3,5,6] (e':=[(0,_),(3,_),(5,_),(6,_)]) J ?_))
 refine qQ (qL (qL (qC (.q 0 (.q 1 (.q 2 (.q 3 ((.l 4 [] (.done))))))) Kr ?_)))
 refine qK J J J J (qZ J J J J (qG (k:=3) J J J J υ'48 J ζ'46 J ?_))
 refine qP (j:=3) J J J J α'46 Tk Az (by rfl) ?_
 refine l_range (ek:=ek2) (ev1:=evT) (F:=F) (m:=mk) J J J J υ'46 Tk ?_
 intro rr N_rr
 refine qV (qS (qW [3,5,6,32] (e':=[(3,_),(5,_),(6,_),(32,_)]) J ?_))
 refine qQ (kV (cL (fun _ h=>sY (sz:=1) (enc:=encZ) h) ?_))
 refine sS (α:=List (Int × Int) × List Int × Option Addr × Nat) (fun (x_:List (Int × Int) × List Int × Option Addr × Nat)=>match x_ with | (vis,L,la,lc)=>vis.Nodup∧(∀ q∈vis,q∈K)∧L=vis.flatMap (agK F k t o l)) (fun (x_:List (Int × Int) × List Int × Option Addr × Nat)=>match x_ with | (vis,L,la,lc)=>[(5,.slice la L.length lc)]) (fun (x_:List (Int × Int) × List Int × Option Addr × Nat)=>match x_ with | (vis,L,la,lc)=>[rng ek2 evT rr mk F vis N_rr,own 1 encZ la lc L]) (fun (x_:List (Int × Int) × List Int × Option Addr × Nat)=>match x_ with | (vis,L,la,lc)=>N_rr - vis.length) [3,6,32] (er:=[(3,_),(6,_),(32,_)]) J (([]:List (Int × Int)),([]:List Int),none,0) ?_ (by exact ⟨rfl,trivial⟩) (by (try dsimp only);(try simp only [Ad,Zd]);(repeat ((with_reducible apply Z2);focus (first | (with_reducible (repeat (first | exact Z0 | apply Z1));done) | (repeat (first | exact Z0 | apply Z1)))));exact Z3) ?_
 · exact ⟨List.nodup_nil,fun q h=>(by simp at h),rfl⟩
 rintro ⟨vis,L,la,lc⟩ ⟨hnd,hvk,hL⟩
 try simp only [Ca,Na]
 have hvl:=nodup_sub_len hnd hvk
 have hLl:L.length≤2*vis.length:=by rw [hL];exact rG (agK_len _ _ _ _ _) _
 refine qL (qC ((.l 0 [] (.q 1 (.done)))) Kr ?_)
 refine l_next (ek:=ek2) (ev1:=evT) (F:=F) (m:=mk) (vis:=vis) (N:=N_rr) J J J J (by assumption) Tk ?_ ?_
 ·
  intro hall hex
  refine qV (kX J J J J J (qS (qQ (qL (kN J ?_)))))
  refine cS (qY (qY (kK (qQ (qL (qC (.q 0 ((.l 1 [] (.done)))) Kr ?_))))))
  refine qK J J J J ?_
  have sp_3:=So.sort_spec la L.length lc L Ln Om
  refine qB J J J J J J Tryz.call59 (sp_3) Ts ?_
  rintro ⟨⟩ -
  try simp only [Ca,Na]
  refine qV (qS (qW [5] (e':=[(5,_)]) J ?_))
  refine qQ (qL (qC (.q 0 (.q 1 (.done))) Kr ?_))
  refine qK J J J J (qR J J J J (qS (qQ (qJ ?_))))
  have hp:vis.Perm K:=(List.perm_ext_iff_of_nodup hnd hKn).2 fun z=>⟨hvk z,fun h=>(by obtain ⟨u,hu⟩:=Option.isSome_iff_exists.1 ((hks z).1 h);exact hall z u hu)⟩
  rw [if_pos hk,srt_eq (show L.Perm (K.flatMap (agK F k t o l)) by rw [hL];exact flat_perm _ hp)]
  refine cR J J ((la,lc)) (by rw [isort_len,← (flat_perm (agK F k t o l) hp).length_eq,← hL]) (by trivial) ?_
  exact Tf
 intro q w hkv hnk hltN
 refine qV ?_
 have hqk:=(hks q).2 (by rw [hkv];rfl)
 have hq0:=hkt q hqk
 refine kX J J J J J (qS (qQ (qL (cC J ?_))))
 refine qH (qQ (kV (qL (qC (.q 0 (.q 1 (.q 2 ((.l 3 [] ((.l 4 [] ((.l 5 [] ((.l 6 [] (.done)))))))))))) Kr ?_))))
 refine q_entry (ek:=ek2) (ev1:=evT) (F:=F) (m:=mk) (vis:=vis) (N:=N_rr) (k:=q) (v:=w) J J J J hkv Tk ?_
 refine kX J J J J J (kX J J J J J (cY J J J ω'117 (zs:=[.int .i64 0,.int .i64 0]) J ?_))
 intro b7
 refine qV (cY J J J ω'119 (zs:=[.int .i64 0,.int .i64 0,.int .u64 0,.int .u64 0]) J ?_)
 intro b8
 refine qV (kR (j:=0) J J J J Tryz.sizeOf117 (us:=[_,_]) J J J Tk Az (by first | decide | (simp;done) | omega) ?_)
 simp only [setL,List.set]
 refine qV (kR (j:=0) J J J J ζ'119 (us:=[_,_,_,_]) J J J Tk Az (by first | decide | (simp;done) | omega) ?_)
 simp only [setL,List.set]
 refine qV (qS (qW [3,5,6,7,8,32] (e':=[(3,_),(5,_),(6,_),(7,_),(8,_),(32,_)]) J ?_))
 refine qQ (qL (qL (qC (.q 0 (.q 1 (.q 2 (.q 3 (.q 4 (.q 5 (.q 6 (.q 7 (.q 8 (.q 9 (.q 10 (.q 11 (.done))))))))))))) Kr ?_)))
 refine qG (k:=0) J J J J υ'117 J ζ'3 J ?_
 refine qP (j:=0) J J J J α'3 Tk Az (by rfl) ?_
 refine qG (k:=2) J J J J υ'52 J ζ'3 J ?_
 refine qP (j:=2) J J J J α'3 Tk Az (by rfl) ?_
 refine qD J J J J J (b_neq _ _ _ _) ?_
 refine qK J J J J ?_
 refine cV 43 J (fun s0=>?_) (fun s0=>?_)
 ·
  refine qX J J J J (qX J J J J (qX J J J J (qX J J J J (qX J J J J (kL J J J J J (qS (qW [3,5,6,7,8,32,44,45,46,47,48,49] (e':=[(3,_),(5,_),(6,_),(7,_),(8,_),(32,_),(44,_),(45,_),(46,_),(47,_),(48,_),(49,_)]) J ?_)))))))
  refine qQ (cC J ?_)
  refine cS (qY (kK (qQ ?_)))
  refine kZ (x:=(vis,L,la,lc)) ((vis++[q],L,la,lc)) ?_ ?_ ?_ ?_
  · try dsimp only
    exact ⟨nodup_snoc hnd hnk,fun z hz=>(List.mem_append.1 hz).elim (hvk z) (fun h=>(List.mem_singleton.1 h) ▸ hqk),by rw [flat_snoc,← hL];(rw [agK_s (by first | exact .inl s0 | exact .inr s1),List.append_nil];done)⟩
  · show N_rr - (vis++[q]).length < N_rr - vis.length;rw [List.length_append];simp;omega
  · exact ⟨rfl,rfl,rfl,rfl,trivial⟩
  · (try simp only [Ca,Na]);exact Tf
 refine qG (k:=1) J J J J υ'117 J ζ'3 J ?_
 refine qP (j:=1) J J J J α'3 Tk Az (by rfl) ?_
 refine qG (k:=1) J J J J υ'52 J ζ'3 J ?_
 refine qP (j:=1) J J J J α'3 Tk Az (by rfl) ?_
 refine qD J J J J J (cZ _ _ _ _) ?_
 refine kD J J J J J (qS (qW [3,5,6,7,8,32,44,45,46,47,48,49] (e':=[(3,_),(5,_),(6,_),(7,_),(8,_),(32,_),(44,_),(45,_),(46,_),(47,_),(48,_),(49,_)]) J ?_))
 refine qQ ?_
 refine qF J (fun s1=>?_) (fun s1=>?_)
 ·
  refine cS (qY (kK (qQ ?_)))
  refine kZ (x:=(vis,L,la,lc)) ((vis++[q],L,la,lc)) ?_ ?_ ?_ ?_
  · try dsimp only
    exact ⟨nodup_snoc hnd hnk,fun z hz=>(List.mem_append.1 hz).elim (hvk z) (fun h=>(List.mem_singleton.1 h) ▸ hqk),by rw [flat_snoc,← hL];(rw [agK_s (by first | exact .inl s0 | exact .inr s1),List.append_nil];done)⟩
  · show N_rr - (vis++[q]).length < N_rr - vis.length;rw [List.length_append];simp;omega
  · exact ⟨rfl,rfl,rfl,rfl,trivial⟩
  · (try simp only [Ca,Na]);exact Tf
 refine qH (qQ (qL (qC (.q 0 (.q 1 (.q 2 ((.l 3 [] (.q 4 (.done))))))) Kr ?_)))
 refine qK J J J J (qG (k:=1) J J J J υ'117 J ζ'3 J ?_)
 refine qP (j:=1) J J J J α'3 Tk Az (by rfl) ?_
 have sp_4:=get_z tb l ta l.length tc Ln q.2 Om
 refine qB J J J J J J κ'58 (sp_4) Ts ?_
 rintro ⟨⟩ -
 try simp only [Ca,Na]
 refine qV (qR J J J J (qS (qW [3,5,6,8,9,32,44,45,46,47,48] (e':=[(3,_),(5,_),(6,_),(8,_),(9,_),(32,_),(44,_),(45,_),(46,_),(47,_),(48,_)]) J ?_)))
 refine qQ (kV (qL (kV (qL (kV (qL (qL (qC (.q 0 (.q 1 (.q 2 (.q 3 (.done))))) Kr ?_))))))))
 refine qG (k:=0) J J J J υ'52 J ζ'50 J ?_
 refine qP (j:=0) J J J J α'50 Tk Az (by rfl) ?_
 refine qD J J J J J (cZ _ _ _ _) ?_
 refine qR J J J J (qS (qQ ?_))
 refine qF J (fun k3=>?_) (fun k3=>?_)
 ·
  refine cS (qY (kK (qQ (qL (qC (.q 0 (.q 1 (.q 2 (.q 3 (.q 4 (.q 5 (.q 6 (.q 7 (.q 8 (.done)))))))))) Kr ?_)))))
  refine qG (k:=0) J J J J υ'119 J ζ'3 J ?_
  refine qP (j:=0) J J J J α'3 Tk Az (by rfl) ?_
  refine qD J J J J J (b_geq _ _ _ _) ?_
  refine qK J J J J ?_
  refine cV 61 J (fun r0=>?_) (fun r0=>?_)
  ·
   refine qG (k:=2) J J J J υ'119 J ζ'97 J ?_
   refine qP (j:=2) J J J J α'97 Tk Az (by rfl) ?_
   refine qK J J J J (qD J J J J J (b_gtr _ _ _ _) ?_)
   refine kL J J J J J (qS (qW [3,5,6,8,9,32,44,45,46,47,48,62,63,64,65,66] (e':=[(3,_),(5,_),(6,_),(8,_),(9,_),(32,_),(44,_),(45,_),(46,_),(47,_),(48,_),(62,_),(63,_),(64,_),(65,_),(66,_)]) J ?_))
   refine qQ ?_
   refine qF J (fun r1=>?_) (fun r1=>?_)
   ·
    refine qC (.q 0 (.q 1 (.q 2 ((.l 3 [] ((.l 4 [] (.q 5 (.done))))))))) Kr ?_
    refine qK J J J J (qG (k:=0) J J J J υ'119 J ζ'3 J ?_)
    refine qP (j:=0) J J J J α'3 Tk Az (by rfl) ?_
    refine kJ J J J J (cW (us:=[_]) υ'22 ζ'3 J ω'3 J J J) ?_
    intro b70
    refine qV (cN (sz:=1) (enc:=encZ) (xs:=L) J J J J J υ'22 τ'3 J J J (by decide) Tk Tk (by first | rfl | omega | (simp;done) | (simp;omega)) (ys:=[w.1]) (cJ cB) (by rfl) (by first | rfl | omega) (encZ_len) (encZ_one) Om (by show _*8≤_;omega) ?_)
    intro ao71 cp71
    refine qV (qR J J J J (qS (qW [3,5,6,8,9,32,44,45,46,47,48,62,63,64,65] (e':=[(3,_),(5,_),(6,_),(8,_),(9,_),(32,_),(44,_),(45,_),(46,_),(47,_),(48,_),(62,_),(63,_),(64,_),(65,_)]) J ?_)))
    refine kG (qQ (qL (qL (qC (.q 0 (.q 1 (.q 2 (.q 3 (.q 4 (.q 5 (.q 6 (.q 7 (.q 8 (.done)))))))))) Kr ?_))))
    refine qG (k:=1) J J J J υ'119 J ζ'3 J ?_
    refine qP (j:=1) J J J J α'3 Tk Az (by rfl) ?_
    refine qD J J J J J (b_geq _ _ _ _) ?_
    refine qK J J J J ?_
    refine cV 75 J (fun w0=>?_) (fun w0=>?_)
    ·
     refine qG (k:=3) J J J J υ'119 J ζ'97 J ?_
     refine qP (j:=3) J J J J α'97 Tk Az (by rfl) ?_
     refine qK J J J J (qD J J J J J (b_gtr _ _ _ _) ?_)
     refine kL J J J J J (qS (qW [3,5,6,8,32,44,45,46,47,48,62,63,64,65,76,77,78,79,80] (e':=[(3,_),(5,_),(6,_),(8,_),(32,_),(44,_),(45,_),(46,_),(47,_),(48,_),(62,_),(63,_),(64,_),(65,_),(76,_),(77,_),(78,_),(79,_),(80,_)]) J ?_))
     refine qQ ?_
     refine qF J (fun w1=>?_) (fun w1=>?_)
     ·
      refine qC (.q 0 (.q 1 (.q 2 ((.l 3 [] ((.l 4 [] (.q 5 (.done))))))))) Kr ?_
      refine qK J J J J (qG (k:=1) J J J J υ'119 J ζ'3 J ?_)
      refine qP (j:=1) J J J J α'3 Tk Az (by rfl) ?_
      refine kJ J J J J (cW (us:=[_]) υ'22 ζ'3 J ω'3 J J J) ?_
      intro b84
      refine qV (cN (sz:=1) (enc:=encZ) (xs:=(L++([w.1]))) J J J J J υ'22 τ'3 J J J (by decide) Tk Tk (by first | rfl | omega | (simp;done) | (simp;omega)) (ys:=[w.2.1]) (cJ cB) (by rfl) (by first | rfl | omega) (encZ_len) (encZ_one) Om (by show _*8≤_;omega) ?_)
      intro ao85 cp85
      refine qV (qR J J J J (qS (qW [3,5,6,32,44,45,46,47,48,62,63,64,65,76,77,78,79] (e':=[(3,_),(5,_),(6,_),(32,_),(44,_),(45,_),(46,_),(47,_),(48,_),(62,_),(63,_),(64,_),(65,_),(76,_),(77,_),(78,_),(79,_)]) J ?_)))
      refine qQ (cS (kK (kG (qQ (kF 5 J (v':=.slice ao85 ((L++([w.1]))++([w.2.1])).length cp85) (by first | rfl | (congr 1;done) | (congr 1 <;> first | rfl | omega | (simp;done) | (simp;omega))) ?_)))))
      refine kZ (x:=(vis,L,la,lc)) ((vis++[q],((L++([w.1]))++([w.2.1])),ao85,cp85)) ?_ ?_ ?_ ?_
      · try dsimp only
        exact ⟨nodup_snoc hnd hnk,fun z hz=>(List.mem_append.1 hz).elim (hvk z) (fun h=>(List.mem_singleton.1 h) ▸ hqk),by rw [flat_snoc,← hL];(rw [agK_go (by first | assumption | omega) (by first | assumption | omega) hkv];split <;> split <;> first | (exfalso;omega) | simp;done)⟩
      · show N_rr - (vis++[q]).length < N_rr - vis.length;rw [List.length_append];simp;omega
      · exact ⟨rfl,rfl,rfl,rfl,trivial⟩
      · (try simp only [Ca,Na]);exact Tf
     refine qH (qQ (cS (kK (kG (qQ (kF 5 J (v':=.slice ao71 (L++([w.1])).length cp71) (by first | rfl | (congr 1;done) | (congr 1 <;> first | rfl | omega | (simp;done) | (simp;omega))) ?_))))))
     refine kZ (x:=(vis,L,la,lc)) ((vis++[q],(L++([w.1])),ao71,cp71)) ?_ ?_ ?_ ?_
     · try dsimp only
       exact ⟨nodup_snoc hnd hnk,fun z hz=>(List.mem_append.1 hz).elim (hvk z) (fun h=>(List.mem_singleton.1 h) ▸ hqk),by rw [flat_snoc,← hL];(rw [agK_go (by first | assumption | omega) (by first | assumption | omega) hkv];split <;> split <;> first | (exfalso;omega) | simp;done)⟩
     · show N_rr - (vis++[q]).length < N_rr - vis.length;rw [List.length_append];simp;omega
     · exact ⟨rfl,rfl,rfl,rfl,trivial⟩
     · (try simp only [Ca,Na]);exact Tf
    refine qX J J J J (qX J J J J (qX J J J J (qX J J J J (kD J J J J J (qS (qW [3,5,6,8,32,44,45,46,47,48,62,63,64,65,76,77,78,79,80] (e':=[(3,_),(5,_),(6,_),(8,_),(32,_),(44,_),(45,_),(46,_),(47,_),(48,_),(62,_),(63,_),(64,_),(65,_),(76,_),(77,_),(78,_),(79,_),(80,_)]) J ?_))))))
    refine qQ (kN J ?_)
    refine qH (qQ (cS (kK (kG (qQ (kF 5 J (v':=.slice ao71 (L++([w.1])).length cp71) (by first | rfl | (congr 1;done) | (congr 1 <;> first | rfl | omega | (simp;done) | (simp;omega))) ?_))))))
    refine kZ (x:=(vis,L,la,lc)) ((vis++[q],(L++([w.1])),ao71,cp71)) ?_ ?_ ?_ ?_
    · try dsimp only
      exact ⟨nodup_snoc hnd hnk,fun z hz=>(List.mem_append.1 hz).elim (hvk z) (fun h=>(List.mem_singleton.1 h) ▸ hqk),by rw [flat_snoc,← hL];(rw [agK_go (by first | assumption | omega) (by first | assumption | omega) hkv];split <;> split <;> first | (exfalso;omega) | simp;done)⟩
    · show N_rr - (vis++[q]).length < N_rr - vis.length;rw [List.length_append];simp;omega
    · exact ⟨rfl,rfl,rfl,rfl,trivial⟩
    · (try simp only [Ca,Na]);exact Tf
   refine qH (kG (qQ (qL (qL (qC (.q 0 (.q 1 (.q 2 (.q 3 (.q 4 (.q 5 (.q 6 (.q 7 (.q 8 (.done)))))))))) Kr ?_)))))
   refine qG (k:=1) J J J J υ'119 J ζ'3 J ?_
   refine qP (j:=1) J J J J α'3 Tk Az (by rfl) ?_
   refine qD J J J J J (b_geq _ _ _ _) ?_
   refine qK J J J J ?_
   refine cV 75 J (fun w0=>?_) (fun w0=>?_)
   ·
    refine qG (k:=3) J J J J υ'119 J ζ'97 J ?_
    refine qP (j:=3) J J J J α'97 Tk Az (by rfl) ?_
    refine qK J J J J (qD J J J J J (b_gtr _ _ _ _) ?_)
    refine kL J J J J J (qS (qW [3,5,6,8,32,44,45,46,47,48,62,63,64,65,76,77,78,79,80] (e':=[(3,_),(5,_),(6,_),(8,_),(32,_),(44,_),(45,_),(46,_),(47,_),(48,_),(62,_),(63,_),(64,_),(65,_),(76,_),(77,_),(78,_),(79,_),(80,_)]) J ?_))
    refine qQ ?_
    refine qF J (fun w1=>?_) (fun w1=>?_)
    ·
     refine qC (.q 0 (.q 1 (.q 2 ((.l 3 [] ((.l 4 [] (.q 5 (.done))))))))) Kr ?_
     refine qK J J J J (qG (k:=1) J J J J υ'119 J ζ'3 J ?_)
     refine qP (j:=1) J J J J α'3 Tk Az (by rfl) ?_
     refine kJ J J J J (cW (us:=[_]) υ'22 ζ'3 J ω'3 J J J) ?_
     intro b84
     refine qV (cN (sz:=1) (enc:=encZ) (xs:=L) J J J J J υ'22 τ'3 J J J (by decide) Tk Tk (by first | rfl | omega | (simp;done) | (simp;omega)) (ys:=[w.2.1]) (cJ cB) (by rfl) (by first | rfl | omega) (encZ_len) (encZ_one) Om (by show _*8≤_;omega) ?_)
     intro ao85 cp85
     refine qV (qR J J J J (qS (qW [3,5,6,32,44,45,46,47,48,62,63,64,65,76,77,78,79] (e':=[(3,_),(5,_),(6,_),(32,_),(44,_),(45,_),(46,_),(47,_),(48,_),(62,_),(63,_),(64,_),(65,_),(76,_),(77,_),(78,_),(79,_)]) J ?_)))
     refine qQ (cS (kK (kG (qQ (kF 5 J (v':=.slice ao85 (L++([w.2.1])).length cp85) (by first | rfl | (congr 1;done) | (congr 1 <;> first | rfl | omega | (simp;done) | (simp;omega))) ?_)))))
     refine kZ (x:=(vis,L,la,lc)) ((vis++[q],(L++([w.2.1])),ao85,cp85)) ?_ ?_ ?_ ?_
     · try dsimp only
       exact ⟨nodup_snoc hnd hnk,fun z hz=>(List.mem_append.1 hz).elim (hvk z) (fun h=>(List.mem_singleton.1 h) ▸ hqk),by rw [flat_snoc,← hL];(rw [agK_go (by first | assumption | omega) (by first | assumption | omega) hkv];split <;> split <;> first | (exfalso;omega) | simp;done)⟩
     · show N_rr - (vis++[q]).length < N_rr - vis.length;rw [List.length_append];simp;omega
     · exact ⟨rfl,rfl,rfl,rfl,trivial⟩
     · (try simp only [Ca,Na]);exact Tf
    refine qH (qQ (cS (kK (kG (qQ ?_)))))
    refine kZ (x:=(vis,L,la,lc)) ((vis++[q],L,la,lc)) ?_ ?_ ?_ ?_
    · try dsimp only
      exact ⟨nodup_snoc hnd hnk,fun z hz=>(List.mem_append.1 hz).elim (hvk z) (fun h=>(List.mem_singleton.1 h) ▸ hqk),by rw [flat_snoc,← hL];(rw [agK_go (by first | assumption | omega) (by first | assumption | omega) hkv];split <;> split <;> first | (exfalso;omega) | simp;done)⟩
    · show N_rr - (vis++[q]).length < N_rr - vis.length;rw [List.length_append];simp;omega
    · exact ⟨rfl,rfl,rfl,rfl,trivial⟩
    · (try simp only [Ca,Na]);exact Tf
   refine qX J J J J (qX J J J J (qX J J J J (qX J J J J (kD J J J J J (qS (qW [3,5,6,8,32,44,45,46,47,48,62,63,64,65,76,77,78,79,80] (e':=[(3,_),(5,_),(6,_),(8,_),(32,_),(44,_),(45,_),(46,_),(47,_),(48,_),(62,_),(63,_),(64,_),(65,_),(76,_),(77,_),(78,_),(79,_),(80,_)]) J ?_))))))
   refine qQ (kN J ?_)
   refine qH (qQ (cS (kK (kG (qQ ?_)))))
   refine kZ (x:=(vis,L,la,lc)) ((vis++[q],L,la,lc)) ?_ ?_ ?_ ?_
   · try dsimp only
     exact ⟨nodup_snoc hnd hnk,fun z hz=>(List.mem_append.1 hz).elim (hvk z) (fun h=>(List.mem_singleton.1 h) ▸ hqk),by rw [flat_snoc,← hL];(rw [agK_go (by first | assumption | omega) (by first | assumption | omega) hkv];split <;> split <;> first | (exfalso;omega) | simp;done)⟩
   · show N_rr - (vis++[q]).length < N_rr - vis.length;rw [List.length_append];simp;omega
   · exact ⟨rfl,rfl,rfl,rfl,trivial⟩
   · (try simp only [Ca,Na]);exact Tf
  refine qX J J J J (qX J J J J (qX J J J J (qX J J J J (kD J J J J J (qS (qW [3,5,6,8,9,32,44,45,46,47,48,62,63,64,65,66] (e':=[(3,_),(5,_),(6,_),(8,_),(9,_),(32,_),(44,_),(45,_),(46,_),(47,_),(48,_),(62,_),(63,_),(64,_),(65,_),(66,_)]) J ?_))))))
  refine qQ (kN J ?_)
  refine qH (kG (qQ (qL (qL (qC (.q 0 (.q 1 (.q 2 (.q 3 (.q 4 (.q 5 (.q 6 (.q 7 (.q 8 (.done)))))))))) Kr ?_)))))
  refine qG (k:=1) J J J J υ'119 J ζ'3 J ?_
  refine qP (j:=1) J J J J α'3 Tk Az (by rfl) ?_
  refine qD J J J J J (b_geq _ _ _ _) ?_
  refine qK J J J J ?_
  refine cV 75 J (fun w0=>?_) (fun w0=>?_)
  ·
   refine qG (k:=3) J J J J υ'119 J ζ'97 J ?_
   refine qP (j:=3) J J J J α'97 Tk Az (by rfl) ?_
   refine qK J J J J (qD J J J J J (b_gtr _ _ _ _) ?_)
   refine kL J J J J J (qS (qW [3,5,6,8,32,44,45,46,47,48,62,63,64,65,76,77,78,79,80] (e':=[(3,_),(5,_),(6,_),(8,_),(32,_),(44,_),(45,_),(46,_),(47,_),(48,_),(62,_),(63,_),(64,_),(65,_),(76,_),(77,_),(78,_),(79,_),(80,_)]) J ?_))
   refine qQ ?_
   refine qF J (fun w1=>?_) (fun w1=>?_)
   ·
    refine qC (.q 0 (.q 1 (.q 2 ((.l 3 [] ((.l 4 [] (.q 5 (.done))))))))) Kr ?_
    refine qK J J J J (qG (k:=1) J J J J υ'119 J ζ'3 J ?_)
    refine qP (j:=1) J J J J α'3 Tk Az (by rfl) ?_
    refine kJ J J J J (cW (us:=[_]) υ'22 ζ'3 J ω'3 J J J) ?_
    intro b84
    refine qV (cN (sz:=1) (enc:=encZ) (xs:=L) J J J J J υ'22 τ'3 J J J (by decide) Tk Tk (by first | rfl | omega | (simp;done) | (simp;omega)) (ys:=[w.2.1]) (cJ cB) (by rfl) (by first | rfl | omega) (encZ_len) (encZ_one) Om (by show _*8≤_;omega) ?_)
    intro ao85 cp85
    refine qV (qR J J J J (qS (qW [3,5,6,32,44,45,46,47,48,62,63,64,65,76,77,78,79] (e':=[(3,_),(5,_),(6,_),(32,_),(44,_),(45,_),(46,_),(47,_),(48,_),(62,_),(63,_),(64,_),(65,_),(76,_),(77,_),(78,_),(79,_)]) J ?_)))
    refine qQ (cS (kK (kG (qQ (kF 5 J (v':=.slice ao85 (L++([w.2.1])).length cp85) (by first | rfl | (congr 1;done) | (congr 1 <;> first | rfl | omega | (simp;done) | (simp;omega))) ?_)))))
    refine kZ (x:=(vis,L,la,lc)) ((vis++[q],(L++([w.2.1])),ao85,cp85)) ?_ ?_ ?_ ?_
    · try dsimp only
      exact ⟨nodup_snoc hnd hnk,fun z hz=>(List.mem_append.1 hz).elim (hvk z) (fun h=>(List.mem_singleton.1 h) ▸ hqk),by rw [flat_snoc,← hL];(rw [agK_go (by first | assumption | omega) (by first | assumption | omega) hkv];split <;> split <;> first | (exfalso;omega) | simp;done)⟩
    · show N_rr - (vis++[q]).length < N_rr - vis.length;rw [List.length_append];simp;omega
    · exact ⟨rfl,rfl,rfl,rfl,trivial⟩
    · (try simp only [Ca,Na]);exact Tf
   refine qH (qQ (cS (kK (kG (qQ ?_)))))
   refine kZ (x:=(vis,L,la,lc)) ((vis++[q],L,la,lc)) ?_ ?_ ?_ ?_
   · try dsimp only
     exact ⟨nodup_snoc hnd hnk,fun z hz=>(List.mem_append.1 hz).elim (hvk z) (fun h=>(List.mem_singleton.1 h) ▸ hqk),by rw [flat_snoc,← hL];(rw [agK_go (by first | assumption | omega) (by first | assumption | omega) hkv];split <;> split <;> first | (exfalso;omega) | simp;done)⟩
   · show N_rr - (vis++[q]).length < N_rr - vis.length;rw [List.length_append];simp;omega
   · exact ⟨rfl,rfl,rfl,rfl,trivial⟩
   · (try simp only [Ca,Na]);exact Tf
  refine qX J J J J (qX J J J J (qX J J J J (qX J J J J (kD J J J J J (qS (qW [3,5,6,8,32,44,45,46,47,48,62,63,64,65,76,77,78,79,80] (e':=[(3,_),(5,_),(6,_),(8,_),(32,_),(44,_),(45,_),(46,_),(47,_),(48,_),(62,_),(63,_),(64,_),(65,_),(76,_),(77,_),(78,_),(79,_),(80,_)]) J ?_))))))
  refine qQ (kN J ?_)
  refine qH (qQ (cS (kK (kG (qQ ?_)))))
  refine kZ (x:=(vis,L,la,lc)) ((vis++[q],L,la,lc)) ?_ ?_ ?_ ?_
  · try dsimp only
    exact ⟨nodup_snoc hnd hnk,fun z hz=>(List.mem_append.1 hz).elim (hvk z) (fun h=>(List.mem_singleton.1 h) ▸ hqk),by rw [flat_snoc,← hL];(rw [agK_go (by first | assumption | omega) (by first | assumption | omega) hkv];split <;> split <;> first | (exfalso;omega) | simp;done)⟩
  · show N_rr - (vis++[q]).length < N_rr - vis.length;rw [List.length_append];simp;omega
  · exact ⟨rfl,rfl,rfl,rfl,trivial⟩
  · (try simp only [Ca,Na]);exact Tf
 refine qH (qQ (cS (kP J ?_)))
 refine qY (kK (qQ (qL (qL (qC (.q 0 (.q 1 (.q 2 (.q 3 (.q 4 (.q 5 (.q 6 (.q 7 (.q 8 (.done)))))))))) Kr ?_)))))
 refine qG (k:=1) J J J J υ'119 J ζ'3 J ?_
 refine qP (j:=1) J J J J α'3 Tk Az (by rfl) ?_
 refine qD J J J J J (b_geq _ _ _ _) ?_
 refine qK J J J J ?_
 refine cV 75 J (fun w0=>?_) (fun w0=>?_)
 ·
  refine qG (k:=3) J J J J υ'119 J ζ'97 J ?_
  refine qP (j:=3) J J J J α'97 Tk Az (by rfl) ?_
  refine qK J J J J (qD J J J J J (b_gtr _ _ _ _) ?_)
  refine kL J J J J J (qS (qW [3,5,6,8,32,44,45,46,47,48,76,77,78,79,80] (e':=[(3,_),(5,_),(6,_),(8,_),(32,_),(44,_),(45,_),(46,_),(47,_),(48,_),(76,_),(77,_),(78,_),(79,_),(80,_)]) J ?_))
  refine qQ ?_
  refine qF J (fun w1=>?_) (fun w1=>?_)
  ·
   refine qC (.q 0 (.q 1 (.q 2 ((.l 3 [] ((.l 4 [] (.q 5 (.done))))))))) Kr ?_
   refine qK J J J J (qG (k:=1) J J J J υ'119 J ζ'3 J ?_)
   refine qP (j:=1) J J J J α'3 Tk Az (by rfl) ?_
   refine kJ J J J J (cW (us:=[_]) υ'22 ζ'3 J ω'3 J J J) ?_
   intro b84
   refine qV (cN (sz:=1) (enc:=encZ) (xs:=L) J J J J J υ'22 τ'3 J J J (by decide) Tk Tk (by first | rfl | omega | (simp;done) | (simp;omega)) (ys:=[w.2.1]) (cJ cB) (by rfl) (by first | rfl | omega) (encZ_len) (encZ_one) Om (by show _*8≤_;omega) ?_)
   intro ao85 cp85
   refine qV (qR J J J J (qS (qW [3,5,6,32,44,45,46,47,48,76,77,78,79] (e':=[(3,_),(5,_),(6,_),(32,_),(44,_),(45,_),(46,_),(47,_),(48,_),(76,_),(77,_),(78,_),(79,_)]) J ?_)))
   refine qQ (cS (kK (kG (qQ (kF 5 J (v':=.slice ao85 (L++([w.2.1])).length cp85) (by first | rfl | (congr 1;done) | (congr 1 <;> first | rfl | omega | (simp;done) | (simp;omega))) ?_)))))
   refine kZ (x:=(vis,L,la,lc)) ((vis++[q],(L++([w.2.1])),ao85,cp85)) ?_ ?_ ?_ ?_
   · try dsimp only
     exact ⟨nodup_snoc hnd hnk,fun z hz=>(List.mem_append.1 hz).elim (hvk z) (fun h=>(List.mem_singleton.1 h) ▸ hqk),by rw [flat_snoc,← hL];(rw [agK_go (by first | assumption | omega) (by first | assumption | omega) hkv];split <;> split <;> first | (exfalso;omega) | simp;done)⟩
   · show N_rr - (vis++[q]).length < N_rr - vis.length;rw [List.length_append];simp;omega
   · exact ⟨rfl,rfl,rfl,rfl,trivial⟩
   · (try simp only [Ca,Na]);exact Tf
  refine qH (qQ (cS (kK (kG (qQ ?_)))))
  refine kZ (x:=(vis,L,la,lc)) ((vis++[q],L,la,lc)) ?_ ?_ ?_ ?_
  · try dsimp only
    exact ⟨nodup_snoc hnd hnk,fun z hz=>(List.mem_append.1 hz).elim (hvk z) (fun h=>(List.mem_singleton.1 h) ▸ hqk),by rw [flat_snoc,← hL];(rw [agK_go (by first | assumption | omega) (by first | assumption | omega) hkv];split <;> split <;> first | (exfalso;omega) | simp;done)⟩
  · show N_rr - (vis++[q]).length < N_rr - vis.length;rw [List.length_append];simp;omega
  · exact ⟨rfl,rfl,rfl,rfl,trivial⟩
  · (try simp only [Ca,Na]);exact Tf
 refine qX J J J J (qX J J J J (qX J J J J (qX J J J J (kD J J J J J (qS (qW [3,5,6,8,32,44,45,46,47,48,76,77,78,79,80] (e':=[(3,_),(5,_),(6,_),(8,_),(32,_),(44,_),(45,_),(46,_),(47,_),(48,_),(76,_),(77,_),(78,_),(79,_),(80,_)]) J ?_))))))
 refine qQ (kN J ?_)
 refine qH (qQ (cS (kK (kG (qQ ?_)))))
 refine kZ (x:=(vis,L,la,lc)) ((vis++[q],L,la,lc)) ?_ ?_ ?_ ?_
 · try dsimp only
   exact ⟨nodup_snoc hnd hnk,fun z hz=>(List.mem_append.1 hz).elim (hvk z) (fun h=>(List.mem_singleton.1 h) ▸ hqk),by rw [flat_snoc,← hL];(rw [agK_go (by first | assumption | omega) (by first | assumption | omega) hkv];split <;> split <;> first | (exfalso;omega) | simp;done)⟩
 · show N_rr - (vis++[q]).length < N_rr - vis.length;rw [List.length_append];simp;omega
 · exact ⟨rfl,rfl,rfl,rfl,trivial⟩
 · (try simp only [Ca,Na]);exact Tf
end Go.Ab.Hi
