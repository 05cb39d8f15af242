/- What the law Plays rests on, part 5 of 7. -/
import Derived.Test.YtiefkbajaffgcaaGreatPlaysD
import Derived.LaidEqlPtr
set_option linter.unusedVariables false
set_option linter.unusedSimpArgs false
set_option maxRecDepth 100000
namespace Go.Ab.Hi
open Go Go.Proofs Go.Ab Go.Ab.Fe Go.Ab.Vc Go.Ab.Dj Go.Ab.So
theorem agF_len (x:HS) (k t o:Int):(agF x k t o).length≤2*x.keys.length:=by
  unfold agF
  split
  · rw [isort_len];exact rG (agK_len _ _ _ _ _) _
  · simp
theorem set_two {α:Type} {l:List α} {i:Nat} {a b:α}:(l.set i a).set i b=l.set i b:=List.set_set ..
theorem ntV_no {n k t o:Int} {l:List Int} {w:Tld} (h:¬ (0:Int) < ((l.length:Nat):Int)):ntV n k t o l w=(w.1,w.2.1,w.2.2.1,(k,t,o),n):=by
  have:l=[]:=List.eq_nil_of_length_eq_zero Om
  subst this;rfl
theorem ntV_at {n k t o z:Int} {l:List Int} {w:Tld} (h:l[l.length - 1]?=some z):ntV n k t o l w=(if w.2.2.1=true then w.1 else (o,z,n),(o,z,n),true,(k,t,o),n):=by
  unfold ntV
  rw [List.getLast?_eq_getElem?,h]
theorem note_spec (pa:Option Addr) (pc:Nat) (po:Option Addr) (poc b:Nat) (x:HS) (hx:SInv x) (hn:x.v.ck.n≤4000000000000) (k t o:Int) (hc:canF x.v.ck k t o) (hk:k=1∨k=2):Spec Tryz.prog 27 [.pointer (some ⟨b,0,none⟩),.agg #[.int .i64 k,.int .i64 t,.int .i64 o]] [hsR pa pc po poc b x] (fun (_:Unit)=>.tuple #[]) (fun _=>True) (fun _=>[hsR pa pc po poc b (ntF x k t o)]):=by
 refine kS (n:=104) Tryz.func27 J J J ?_
 intro Γ w0
 simp only [argE,Ca,Na,Zd,Nat.reduceAdd]
 refine qL (qC ((.l 0 [] (.done))) Kr ?_)
 refine sG J J J J (us:=[_,_,_]) J ?_
 intro b3
 refine qV (qS (qQ (qL ?_)))
 obtain ⟨l,hth⟩:=th_some hx.v (can_th hc)
 obtain ⟨h0,h1⟩:=th_rng hx.v (can_th hc)
 have hlc:=hx.v.thc _ _ hth
 have hkn:=hx.kn
 have hlen:=hx.len
 have hn0:=hx.v.ck.n0
 have hlg:=g_rng hlc.rng (by decide) t.toNat
 have hmx:maxC=281474976710655:=rfl
 have hagl:=agF_len x k t o
 obtain ⟨o0,o1⟩:=acc_o hc hk
 obtain ⟨w,hw⟩:=cX (l:=x.vars) (i:=o.toNat) Om
 refine cP (A:=hsR pa pc po poc b x) Tk ?_
 refine hs_open fun vb mk va vc=>?_
 refine cP (A:=vsR pa pc po poc vb x.v) Tk ?_
 refine vs_open fun cb m1 m2 m3 m4 F1 F2 F3 F4=>?_
 refine qC (.q 0 (.q 1 (.q 2 (.q 3 (.q 4 (.q 5 (.q 6 ((.l 7 [] (.q 8 (.done))))))))))) Kr ?_
 refine qK J J J J (qZ J J J J (qG (k:=0) J J J J υ'48 J ζ'44 J ?_))
 refine qP (j:=0) J J J J α'44 Tk Az (by rfl) ?_
 refine qZ J J J J (qG (k:=0) J J J J υ'86 J ζ'82 J ?_)
 refine qP (j:=0) J J J J α'82 Tk Az (by rfl) ?_
 have sp_1:=Fe.len_spec pa pc cb x.v.ck
 refine qB J J J J J J Tryz.call61 (sp_1) Ts ?_
 rintro ⟨⟩ -
 try simp only [Ca,Na]
 refine qV (qR J J J J (qS (qW [0,3,4] (e':=[(0,_),(3,_),(4,_)]) J ?_)))
 refine qQ (qL (kM J (.q 0 (.q 1 (.q 2 (.q 3 (.q 4 (.q 5 (.q 6 (.q 7 (.done))))))))) Kr ?_))
 refine qK J J J J (qZ J J J J (qG (k:=2) J J J J υ'48 J ζ'45 J ?_))
 refine qP (j:=2) J J J J α'45 Tk Az (by rfl) ?_
 refine qG (k:=2) J J J J υ'52 J ζ'3 J ?_
 refine qP (j:=2) J J J J α'3 Tk Az (by rfl) ?_
 refine cK (sz:=10) (k:=o.toNat) (enc:=encD) (xs:=x.vars) J J J J J υ'45 ζ'90 hw (by first | rfl | omega) Om Tk ?_
 intro ib22 io22 ha22 hl22 hc22
 refine qR J J J J (qS (qW [0,3,4,5] (e':=[(0,_),(3,_),(4,_),(5,_)]) J ?_))
 refine qQ (qL (qL (s_rest_take (F:=F1) (T:=x.v.th) (S:=[]) t Tk (by simp) hth fun tv htF=>?_)))
 refine s_vec Tk fun tb ta tc hta=>?_
 subst hta
 refine qC (.q 0 (.q 1 ((.l 2 [] (.q 3 (.done)))))) Kr ?_
 refine qK J J J J (kC J J J J α'52 ζ'52 Tk 0 (us:=[_,_,_]) Az J J ?_)
 have sp_2:=Hi.against_spec b vb mk m1 tb (.int .i64 x.v.ck.th) (.slice va x.vars.length vc) (.pointer (some ⟨cb,0,none⟩)) (.slice po x.v.ck.pa.length poc) (.map (some m2)) (.map (some m3)) (.map (some m4)) x.kept F1  ta tc l x.keys k t o htF hx.nd hx.ks hx.kt Om
 refine qB J J J J J J Tryz.call25 (sp_2) Ts ?_
 rintro ⟨ga,gc⟩ -
 rw [show (if k=1∨k=2 then isort (x.keys.flatMap (agK x.kept k t o l)) else [])=agF x k t o from by unfold agF;rw [thF_eq hth]]
 try simp only [Ca,Na]
 refine qV (qR J J J J (qS (qQ (qL (qC (.q 0 (.q 1 (.q 2 (.done)))) Kr ?_)))))
 refine qK J J J J (sR J J J J υ'22 ?_)
 refine qD J J J J J (b_gtr _ _ _ _) ?_
 refine qS (qW [0,3,4,5,6,28] (e':=[(0,_),(3,_),(4,_),(5,_),(6,_),(28,_)]) J ?_)
 refine qQ ?_
 refine qF J (fun hgp=>?_) (fun hgp=>?_)
 ·
  obtain ⟨z,hz⟩:=cX (l:=(agF x k t o)) (i:=(agF x k t o).length - 1) Om
  refine qL (kM J (.q 0 (.q 1 (.q 2 (.q 3 (.q 4 (.q 5 (.q 6 (.q 7 (.q 8 (.q 9 (.q 10 (.q 11 (.q 12 ((.l 13 [] (.done)))))))))))))))) Kr ?_)
  refine qK J J J J (qG (k:=2) J J J J υ'52 J ζ'3 J ?_)
  refine qP (j:=2) J J J J α'3 Tk Az (by rfl) ?_
  refine qK J J J J (qK J J J J (sR J J J J υ'22 ?_))
  refine qD J J J J J (b_sub' _ (by exact kY Om Om)) ?_
  refine cK (sz:=0) (k:=((agF x k t o).length - 1)) (enc:=encZ) (xs:=(agF x k t o)) J J J J J υ'22 ζ'3 hz (by first | rfl | omega) Om Tk ?_
  intro ib36 io36 ha36 hl36 hc36
  refine cQ (v:=(.int .i64 z)) (j:=0) (k':=((agF x k t o).length - 1)) (enc:=encZ) (off:=io36) J J J J α'3 ha36 encZ_len hz Tk (by first | rfl | exact (Ad _).symm | omega) (by rfl) ?_
  refine qK J J J J (kB J J J J (vs:=[_,_,_]) (kQ υ'65 ω'65 (ps:=[(0,1),(1,1),(2,1)]) ⟨rfl,ζ'3,rfl,ζ'3,rfl,ζ'3,trivial⟩ rfl) ?_)
  refine qZ J J J J (qG (k:=3) J J J J υ'90 J ζ'65 J ?_)
  refine sC (j:=3) (k:=o.toNat) (q:=(w.1,(o,z,x.v.ck.n),w.2.2.1,w.2.2.2.1,w.2.2.2.2)) (enc:=encD) (off:=io22) J J J J ζ'65 (us:=[_,_,_]) J J J ha22 encD_len hw Tk (by first | rfl | exact (Ad _).symm | omega) (by first | decide | exact Nat.le_of_ble_eq_true J) (by rfl) ?_
  refine qV ?_
  have hs1:(x.vars.set o.toNat (w.1,(o,z,x.v.ck.n),w.2.2.1,w.2.2.2.1,w.2.2.2.2))[o.toNat]?=some ((w.1,(o,z,x.v.ck.n),w.2.2.1,w.2.2.2.1,w.2.2.2.2):Tld):=List.getElem?_set_self (by first | omega | (simp only [List.length_set];omega))
  refine qS (qW [0,3,4,5] (e':=[(0,_),(3,_),(4,_),(5,_)]) J ?_)
  refine qQ (qL (qC (.q 0 (.q 1 (.q 2 (.q 3 (.q 4 (.done)))))) Kr ?_))
  refine qK J J J J (qZ J J J J (qG (k:=6) J J J J υ'90 J ζ'4 J ?_))
  refine cQ (v:=(.bool w.2.2.1)) (j:=6) (k':=o.toNat) (enc:=encD) (off:=io22) J J J J α'4 ha22 encD_len hs1 Tk (by first | rfl | exact (Ad _).symm | omega) (by rfl) ?_
  refine rK J J J J ?_
  refine qS (qW [0,3,4,5,46] (e':=[(0,_),(3,_),(4,_),(5,_),(46,_)]) J ?_)
  refine qQ ?_
  refine c_cond J (fun hra=>?_) (fun hra=>?_)
  ·
   try simp only [Bool.and_eq_true,Bool.or_eq_true,Bool.not_eq_true',Bool.not_eq_false',Bool.and_eq_false_iff,Bool.or_eq_false_iff,decide_eq_true_eq,decide_eq_false_iff_not] at hra
   refine qC (.q 0 (.q 1 (.q 2 (.q 3 (.q 4 (.q 5 (.q 6 (.q 7 ((.l 8 [] (.q 9 (.q 10 ((.l 11 [] (.done))))))))))))))) Kr ?_
   refine qK J J J J (qK J J J J (qK J J J J (qZ J J J J (qG (k:=3) J J J J υ'90 J ζ'65 J ?_))))
   refine rS (j:=3) (k':=o.toNat) (us:=[_,_,_]) (enc:=encD) (off:=io22) J J J J α'65 ζ'65 ha22 encD_len hs1 Tk (by first | rfl | exact (Ad _).symm | omega) (by rfl) J ?_
   refine qZ J J J J (qG (k:=0) J J J J υ'90 J ζ'65 J ?_)
   refine sC (j:=0) (k:=o.toNat) (q:=((o,z,x.v.ck.n),(o,z,x.v.ck.n),w.2.2.1,w.2.2.2.1,w.2.2.2.2)) (enc:=encD) (off:=io22) J J J J ζ'65 (us:=[_,_,_]) J J J ha22 encD_len hs1 Tk (by first | rfl | exact (Ad _).symm | omega) (by first | decide | exact Nat.le_of_ble_eq_true J) (by rfl) ?_
   refine qV ?_
   have hs2:((x.vars.set o.toNat (w.1,(o,z,x.v.ck.n),w.2.2.1,w.2.2.2.1,w.2.2.2.2)).set o.toNat ((o,z,x.v.ck.n),(o,z,x.v.ck.n),w.2.2.1,w.2.2.2.1,w.2.2.2.2))[o.toNat]?=some (((o,z,x.v.ck.n),(o,z,x.v.ck.n),w.2.2.1,w.2.2.2.1,w.2.2.2.2):Tld):=List.getElem?_set_self (by first | omega | (simp only [List.length_set];omega))
   refine qZ J J J J (qG (k:=6) J J J J υ'90 J ζ'4 J ?_)
   refine sC (j:=6) (k:=o.toNat) (q:=((o,z,x.v.ck.n),(o,z,x.v.ck.n),true,w.2.2.2.1,w.2.2.2.2)) (enc:=encD) (off:=io22) J J J J ζ'4 (us:=[_]) J J J ha22 encD_len hs2 Tk (by first | rfl | exact (Ad _).symm | omega) (by first | decide | exact Nat.le_of_ble_eq_true J) (by rfl) ?_
   refine qV ?_
   have hs3:(((x.vars.set o.toNat (w.1,(o,z,x.v.ck.n),w.2.2.1,w.2.2.2.1,w.2.2.2.2)).set o.toNat ((o,z,x.v.ck.n),(o,z,x.v.ck.n),w.2.2.1,w.2.2.2.1,w.2.2.2.2)).set o.toNat ((o,z,x.v.ck.n),(o,z,x.v.ck.n),true,w.2.2.2.1,w.2.2.2.2))[o.toNat]?=some (((o,z,x.v.ck.n),(o,z,x.v.ck.n),true,w.2.2.2.1,w.2.2.2.2):Tld):=List.getElem?_set_self (by first | omega | (simp only [List.length_set];omega))
   refine qS (qW [0,3,4,5] (e':=[(0,_),(3,_),(4,_),(5,_)]) J ?_)
   refine qQ (qL (qC (.q 0 (.q 1 (.q 2 (.q 3 (.q 4 (.q 5 ((.l 6 [] (.q 7 (.q 8 ((.l 9 [] (.done))))))))))))) Kr ?_))
   refine qK J J J J (qK J J J J (kC J J J J α'52 ζ'52 Tk 0 (us:=[_,_,_]) Az J J ?_))
   refine qK J J J J (qZ J J J J (qG (k:=7) J J J J υ'90 J ζ'52 J ?_))
   refine sC (j:=7) (k:=o.toNat) (q:=((o,z,x.v.ck.n),(o,z,x.v.ck.n),true,(k,t,o),w.2.2.2.2)) (enc:=encD) (off:=io22) J J J J ζ'52 (us:=[_,_,_]) J J J ha22 encD_len hs3 Tk (by first | rfl | exact (Ad _).symm | omega) (by first | decide | exact Nat.le_of_ble_eq_true J) (by rfl) ?_
   refine qV ?_
   have hs4:((((x.vars.set o.toNat (w.1,(o,z,x.v.ck.n),w.2.2.1,w.2.2.2.1,w.2.2.2.2)).set o.toNat ((o,z,x.v.ck.n),(o,z,x.v.ck.n),w.2.2.1,w.2.2.2.1,w.2.2.2.2)).set o.toNat ((o,z,x.v.ck.n),(o,z,x.v.ck.n),true,w.2.2.2.1,w.2.2.2.2)).set o.toNat ((o,z,x.v.ck.n),(o,z,x.v.ck.n),true,(k,t,o),w.2.2.2.2))[o.toNat]?=some (((o,z,x.v.ck.n),(o,z,x.v.ck.n),true,(k,t,o),w.2.2.2.2):Tld):=List.getElem?_set_self (by first | omega | (simp only [List.length_set];omega))
   refine qZ J J J J (qG (k:=10) J J J J υ'90 J ζ'3 J ?_)
   refine sC (j:=10) (k:=o.toNat) (q:=((o,z,x.v.ck.n),(o,z,x.v.ck.n),true,(k,t,o),x.v.ck.n)) (enc:=encD) (off:=io22) J J J J ζ'3 (us:=[_]) J J J ha22 encD_len hs4 Tk (by first | rfl | exact (Ad _).symm | omega) (by first | decide | exact Nat.le_of_ble_eq_true J) (by rfl) ?_
   refine qV ?_
   have hs5:(((((x.vars.set o.toNat (w.1,(o,z,x.v.ck.n),w.2.2.1,w.2.2.2.1,w.2.2.2.2)).set o.toNat ((o,z,x.v.ck.n),(o,z,x.v.ck.n),w.2.2.1,w.2.2.2.1,w.2.2.2.2)).set o.toNat ((o,z,x.v.ck.n),(o,z,x.v.ck.n),true,w.2.2.2.1,w.2.2.2.2)).set o.toNat ((o,z,x.v.ck.n),(o,z,x.v.ck.n),true,(k,t,o),w.2.2.2.2)).set o.toNat ((o,z,x.v.ck.n),(o,z,x.v.ck.n),true,(k,t,o),x.v.ck.n))[o.toNat]?=some (((o,z,x.v.ck.n),(o,z,x.v.ck.n),true,(k,t,o),x.v.ck.n):Tld):=List.getElem?_set_self (by first | omega | (simp only [List.length_set];omega))
   refine qS (qW [0,3,4] (e':=[(0,_),(3,_),(4,_)]) J ?_)
   refine qQ (qL (qC (.q 0 (.q 1 (.q 2 (.q 3 (.q 4 ((.l 5 [] ((.l 6 [] ((.l 7 [] (.done)))))))))))) Kr ?_))
   refine qK J J J J (qG (k:=2) J J J J υ'52 J ζ'3 J ?_)
   refine qP (j:=2) J J J J α'3 Tk Az (by rfl) ?_
   refine qG (k:=1) J J J J υ'52 J ζ'3 J ?_
   refine qP (j:=1) J J J J α'3 Tk Az (by rfl) ?_
   have sp_3:=Hi.touched_spec b mk (.pointer (some ⟨vb,0,none⟩)) (.int .i64 x.v.ck.th) (.slice va x.vars.length vc) x.kept o t
   refine qB J J J J J J κ'62 (sp_3) Ts ?_
   rintro ⟨⟩ -
   try simp only [Ca,Na]
   refine qV (cY J J J ω'119 (zs:=[.int .i64 0,.int .i64 0,.int .u64 0,.int .u64 0]) J ?_)
   intro b7
   refine qV (kR (j:=0) J J J J ζ'119 (us:=[_,_,_,_]) J J J Tk Az (by first | decide | (simp;done) | omega) ?_)
   simp only [setL,List.set]
   refine qV (qS (qW [0,3,4,7] (e':=[(0,_),(3,_),(4,_),(7,_)]) J ?_))
   refine qQ (qL (qL (qC (.q 0 (.q 1 (.q 2 (.done)))) Kr ?_)))
   refine qG (k:=0) J J J J υ'52 J ζ'50 J ?_
   refine qP (j:=0) J J J J α'50 Tk Az (by rfl) ?_
   refine qD J J J J J (cZ _ _ _ _) ?_
   refine qS (qQ ?_)
   refine qF J (fun hk1=>?_) (fun hk1=>?_)
   ·
    refine kM J (.q 0 (.q 1 (.q 2 (.q 3 (.q 4 (.q 5 (.q 6 (.q 8 ((.l 7 [] ((.l 9 [] (.q 10 ((.l 11 [] (.done)))))))))))))))) Kr ?_
    refine qK J J J J (qK J J J J (qZ J J J J (qG (k:=0) J J J J υ'48 J ζ'44 J ?_)))
    refine qP (j:=0) J J J J α'44 Tk Az (by rfl) ?_
    refine qG (k:=1) J J J J υ'52 J ζ'3 J ?_
    refine qP (j:=1) J J J J α'3 Tk Az (by rfl) ?_
    refine qG (k:=0) J J J J υ'119 J ζ'3 J ?_
    have sp_4:=clock_spec vb m1 (.pointer (some ⟨cb,0,none⟩)) (.slice po x.v.ck.pa.length poc) (.map (some m2)) (.map (some m3)) (.map (some m4)) F1 tb (ta) (tc) l t Om htF
    refine qB J J J J J J κ'60 (sp_4) Ts ?_
    rintro ⟨⟩ -
    try simp only [Ca,Na]
    refine qV (kR (j:=0) J J J J ζ'3 (us:=[_]) J J J Tk Az (by first | decide | (simp;done) | omega) ?_)
    simp only [setL,List.set]
    refine qV (qG (k:=2) J J J J υ'119 J ζ'97 J ?_)
    refine kR (j:=2) J J J J ζ'97 (us:=[_]) J J J Tk Az (by first | decide | (simp;done) | omega) ?_
    simp only [setL,List.set]
    refine qV (qS (qW [0,3,7] (e':=[(0,_),(3,_),(7,_)]) J ?_))
    refine qQ (kM J (.q 0 (.q 1 (.q 2 (.q 3 (.q 4 (.q 5 (.q 6 (.q 7 (.q 8 (.q 9 ((.l 10 [] (.done))))))))))))) Kr ?_)
    refine qK J J J J (qZ J J J J (qG (k:=3) J J J J υ'48 J ζ'46 J ?_))
    refine qP (j:=3) J J J J α'46 Tk Az (by rfl) ?_
    refine qG (k:=2) J J J J υ'52 J ζ'3 J ?_
    refine qP (j:=2) J J J J α'3 Tk Az (by rfl) ?_
    refine qG (k:=1) J J J J υ'52 J ζ'3 J ?_
    refine qP (j:=1) J J J J α'3 Tk Az (by rfl) ?_
    refine kB J J J J (vs:=[_,_]) (kQ υ'117 ω'117 (ps:=[(0,1),(1,1)]) ⟨rfl,ζ'3,rfl,ζ'3,trivial⟩ rfl) ?_
    refine kC J J J J α'119 ζ'119 Tk 0 (us:=[_,_,_,_]) Az J J ?_
    refine sX (ek:=ek2) (ev1:=evT) (F:=x.kept) (m:=mk) (k:=(o,t)) (v:=(x.v.ck.n,((x.kept (o,t)).getD (-1,-1,0,0)).2.1,l.getD t.toNat 0,((x.kept (o,t)).getD (-1,-1,0,0)).2.2.2)) (by first | exact .inl J | exact .inr J) J J J J υ'46 (sH υ'117 J J J J υ'3 υ'3 α'3 α'3 Kr) Tk ?_
    refine qV ?_
    have hfx:ntF x k t o=⟨x.v,(((((x.vars.set o.toNat (w.1,(o,z,x.v.ck.n),w.2.2.1,w.2.2.2.1,w.2.2.2.2)).set o.toNat ((o,z,x.v.ck.n),(o,z,x.v.ck.n),w.2.2.1,w.2.2.2.1,w.2.2.2.2)).set o.toNat ((o,z,x.v.ck.n),(o,z,x.v.ck.n),true,w.2.2.2.1,w.2.2.2.2)).set o.toNat ((o,z,x.v.ck.n),(o,z,x.v.ck.n),true,(k,t,o),w.2.2.2.2)).set o.toNat ((o,z,x.v.ck.n),(o,z,x.v.ck.n),true,(k,t,o),x.v.ck.n)),(if (x.kept (o,t)).isSome then x.keys else x.keys++[(o,t)]),upd x.kept (o,t) (some (x.v.ck.n,((x.kept (o,t)).getD (-1,-1,0,0)).2.1,l.getD t.toNat 0,((x.kept (o,t)).getD (-1,-1,0,0)).2.2.2))⟩:=by
      have h5:(x.v.ck.n,((x.kept (o,t)).getD (-1,-1,0,0)).2.1,l.getD t.toNat 0,((x.kept (o,t)).getD (-1,-1,0,0)).2.2.2)=ntK x.v.ck.n k ((thF x.v t).getD t.toNat 0) (tchF x o t):=by
        rw [thF_eq hth];unfold ntK tchF
        first | rw [if_pos hk1] | rw [if_neg hk1]
      have h6:(((((x.vars.set o.toNat (w.1,(o,z,x.v.ck.n),w.2.2.1,w.2.2.2.1,w.2.2.2.2)).set o.toNat ((o,z,x.v.ck.n),(o,z,x.v.ck.n),w.2.2.1,w.2.2.2.1,w.2.2.2.2)).set o.toNat ((o,z,x.v.ck.n),(o,z,x.v.ck.n),true,w.2.2.2.1,w.2.2.2.2)).set o.toNat ((o,z,x.v.ck.n),(o,z,x.v.ck.n),true,(k,t,o),w.2.2.2.2)).set o.toNat ((o,z,x.v.ck.n),(o,z,x.v.ck.n),true,(k,t,o),x.v.ck.n))=x.vars.set o.toNat (ntV x.v.ck.n k t o (agF x k t o) (x.vars.getD o.toNat t0)):=by
        rw [getD_some hw]
        simp only [set_two]
        congr 1
        symm
        rw [ntV_at hz,if_neg (by simpa using hra)]
      rw [h5,h6];rfl
    refine s_vecF tb ta tc l Ts ?_
    refine sQ (F:=F1) (T:=x.v.th) (S:=[]) t F1 x.v.th Ts (by simp) htF (fun _ _ _=>rfl) hth (fun _ _ _=>rfl) ?_
    refine vs_fold (b:=vb) x.v (pa:=pa) (pc:=pc) (po:=po) (poc:=poc) (cb:=cb) (m1:=m1) (m2:=m2) (m3:=m3) (m4:=m4) Ts (by rfl) (by rfl) ?_
    refine hs_fold (b:=b) (ntF x k t o) (pa:=pa) (pc:=pc) (po:=po) (poc:=poc) (vb:=vb) (va:=va) (vc:=vc) (mk:=mk) (K:=(if (x.kept (o,t)).isSome then x.keys else x.keys++[(o,t)])) Ts (by exact hfx) (by simp) (by rfl) ?_
    refine qS (qW [] (e':=[]) J ?_)
    refine sZ ?_
    refine ret0 J (()) (by first | rfl | (first | rfl | (congr 1;done) | (congr 1 <;> first | rfl | omega | (simp;done) | (simp;omega)))) (by trivial) ?_
    exact Tf
   refine kM J (.q 0 (.q 1 (.q 2 (.q 3 (.q 4 (.q 5 (.q 6 (.q 8 ((.l 7 [] ((.l 9 [] (.q 10 ((.l 11 [] (.done)))))))))))))))) Kr ?_
   refine qK J J J J (qK J J J J (qZ J J J J (qG (k:=0) J J J J υ'48 J ζ'44 J ?_)))
   refine qP (j:=0) J J J J α'44 Tk Az (by rfl) ?_
   refine qG (k:=1) J J J J υ'52 J ζ'3 J ?_
   refine qP (j:=1) J J J J α'3 Tk Az (by rfl) ?_
   refine qG (k:=1) J J J J υ'119 J ζ'3 J ?_
   have sp_5:=clock_spec vb m1 (.pointer (some ⟨cb,0,none⟩)) (.slice po x.v.ck.pa.length poc) (.map (some m2)) (.map (some m3)) (.map (some m4)) F1 tb (ta) (tc) l t Om htF
   refine qB J J J J J J κ'60 (sp_5) Ts ?_
   rintro ⟨⟩ -
   try simp only [Ca,Na]
   refine qV (kR (j:=1) J J J J ζ'3 (us:=[_]) J J J Tk Az (by first | decide | (simp;done) | omega) ?_)
   simp only [setL,List.set]
   refine qV (qG (k:=3) J J J J υ'119 J ζ'97 J ?_)
   refine kR (j:=3) J J J J ζ'97 (us:=[_]) J J J Tk Az (by first | decide | (simp;done) | omega) ?_
   simp only [setL,List.set]
   refine qV (qS (qW [0,3,7] (e':=[(0,_),(3,_),(7,_)]) J ?_))
   refine qQ (kM J (.q 0 (.q 1 (.q 2 (.q 3 (.q 4 (.q 5 (.q 6 (.q 7 (.q 8 (.q 9 ((.l 10 [] (.done))))))))))))) Kr ?_)
   refine qK J J J J (qZ J J J J (qG (k:=3) J J J J υ'48 J ζ'46 J ?_))
   refine qP (j:=3) J J J J α'46 Tk Az (by rfl) ?_
   refine qG (k:=2) J J J J υ'52 J ζ'3 J ?_
   refine qP (j:=2) J J J J α'3 Tk Az (by rfl) ?_
   refine qG (k:=1) J J J J υ'52 J ζ'3 J ?_
   refine qP (j:=1) J J J J α'3 Tk Az (by rfl) ?_
   refine kB J J J J (vs:=[_,_]) (kQ υ'117 ω'117 (ps:=[(0,1),(1,1)]) ⟨rfl,ζ'3,rfl,ζ'3,trivial⟩ rfl) ?_
   refine kC J J J J α'119 ζ'119 Tk 0 (us:=[_,_,_,_]) Az J J ?_
   refine sX (ek:=ek2) (ev1:=evT) (F:=x.kept) (m:=mk) (k:=(o,t)) (v:=(((x.kept (o,t)).getD (-1,-1,0,0)).1,x.v.ck.n,((x.kept (o,t)).getD (-1,-1,0,0)).2.2.1,l.getD t.toNat 0)) (by first | exact .inl J | exact .inr J) J J J J υ'46 (sH υ'117 J J J J υ'3 υ'3 α'3 α'3 Kr) Tk ?_
   refine qV ?_
   have hfx:ntF x k t o=⟨x.v,(((((x.vars.set o.toNat (w.1,(o,z,x.v.ck.n),w.2.2.1,w.2.2.2.1,w.2.2.2.2)).set o.toNat ((o,z,x.v.ck.n),(o,z,x.v.ck.n),w.2.2.1,w.2.2.2.1,w.2.2.2.2)).set o.toNat ((o,z,x.v.ck.n),(o,z,x.v.ck.n),true,w.2.2.2.1,w.2.2.2.2)).set o.toNat ((o,z,x.v.ck.n),(o,z,x.v.ck.n),true,(k,t,o),w.2.2.2.2)).set o.toNat ((o,z,x.v.ck.n),(o,z,x.v.ck.n),true,(k,t,o),x.v.ck.n)),(if (x.kept (o,t)).isSome then x.keys else x.keys++[(o,t)]),upd x.kept (o,t) (some (((x.kept (o,t)).getD (-1,-1,0,0)).1,x.v.ck.n,((x.kept (o,t)).getD (-1,-1,0,0)).2.2.1,l.getD t.toNat 0))⟩:=by
     have h5:(((x.kept (o,t)).getD (-1,-1,0,0)).1,x.v.ck.n,((x.kept (o,t)).getD (-1,-1,0,0)).2.2.1,l.getD t.toNat 0)=ntK x.v.ck.n k ((thF x.v t).getD t.toNat 0) (tchF x o t):=by
       rw [thF_eq hth];unfold ntK tchF
       first | rw [if_pos hk1] | rw [if_neg hk1]
     have h6:(((((x.vars.set o.toNat (w.1,(o,z,x.v.ck.n),w.2.2.1,w.2.2.2.1,w.2.2.2.2)).set o.toNat ((o,z,x.v.ck.n),(o,z,x.v.ck.n),w.2.2.1,w.2.2.2.1,w.2.2.2.2)).set o.toNat ((o,z,x.v.ck.n),(o,z,x.v.ck.n),true,w.2.2.2.1,w.2.2.2.2)).set o.toNat ((o,z,x.v.ck.n),(o,z,x.v.ck.n),true,(k,t,o),w.2.2.2.2)).set o.toNat ((o,z,x.v.ck.n),(o,z,x.v.ck.n),true,(k,t,o),x.v.ck.n))=x.vars.set o.toNat (ntV x.v.ck.n k t o (agF x k t o) (x.vars.getD o.toNat t0)):=by
       rw [getD_some hw]
       simp only [set_two]
       congr 1
       symm
       rw [ntV_at hz,if_neg (by simpa using hra)]
     rw [h5,h6];rfl
   refine s_vecF tb ta tc l Ts ?_
   refine sQ (F:=F1) (T:=x.v.th) (S:=[]) t F1 x.v.th Ts (by simp) htF (fun _ _ _=>rfl) hth (fun _ _ _=>rfl) ?_
   refine vs_fold (b:=vb) x.v (pa:=pa) (pc:=pc) (po:=po) (poc:=poc) (cb:=cb) (m1:=m1) (m2:=m2) (m3:=m3) (m4:=m4) Ts (by rfl) (by rfl) ?_
   refine hs_fold (b:=b) (ntF x k t o) (pa:=pa) (pc:=pc) (po:=po) (poc:=poc) (vb:=vb) (va:=va) (vc:=vc) (mk:=mk) (K:=(if (x.kept (o,t)).isSome then x.keys else x.keys++[(o,t)])) Ts (by exact hfx) (by simp) (by rfl) ?_
   refine qS (qW [] (e':=[]) J ?_)
   refine sZ ?_
   refine ret0 J (()) (by first | rfl | (first | rfl | (congr 1;done) | (congr 1 <;> first | rfl | omega | (simp;done) | (simp;omega)))) (by trivial) ?_
   exact Tf
  try simp only [Bool.and_eq_true,Bool.or_eq_true,Bool.not_eq_true',Bool.not_eq_false',Bool.and_eq_false_iff,Bool.or_eq_false_iff,decide_eq_true_eq,decide_eq_false_iff_not] at hra
  refine qH (qQ (qL (qC (.q 0 (.q 1 (.q 2 (.q 3 (.q 4 (.q 5 ((.l 6 [] (.q 7 (.q 8 ((.l 9 [] (.done))))))))))))) Kr ?_)))
  refine qK J J J J (qK J J J J (kC J J J J α'52 ζ'52 Tk 0 (us:=[_,_,_]) Az J J ?_))
  refine qK J J J J (qZ J J J J (qG (k:=7) J J J J υ'90 J ζ'52 J ?_))
  refine sC (j:=7) (k:=o.toNat) (q:=(w.1,(o,z,x.v.ck.n),w.2.2.1,(k,t,o),w.2.2.2.2)) (enc:=encD) (off:=io22) J J J J ζ'52 (us:=[_,_,_]) J J J ha22 encD_len hs1 Tk (by first | rfl | exact (Ad _).symm | omega) (by first | decide | exact Nat.le_of_ble_eq_true J) (by rfl) ?_
  refine qV ?_
  have hs6:((x.vars.set o.toNat (w.1,(o,z,x.v.ck.n),w.2.2.1,w.2.2.2.1,w.2.2.2.2)).set o.toNat (w.1,(o,z,x.v.ck.n),w.2.2.1,(k,t,o),w.2.2.2.2))[o.toNat]?=some ((w.1,(o,z,x.v.ck.n),w.2.2.1,(k,t,o),w.2.2.2.2):Tld):=List.getElem?_set_self (by first | omega | (simp only [List.length_set];omega))
  refine qZ J J J J (qG (k:=10) J J J J υ'90 J ζ'3 J ?_)
  refine sC (j:=10) (k:=o.toNat) (q:=(w.1,(o,z,x.v.ck.n),w.2.2.1,(k,t,o),x.v.ck.n)) (enc:=encD) (off:=io22) J J J J ζ'3 (us:=[_]) J J J ha22 encD_len hs6 Tk (by first | rfl | exact (Ad _).symm | omega) (by first | decide | exact Nat.le_of_ble_eq_true J) (by rfl) ?_
  refine qV ?_
  have hs7:(((x.vars.set o.toNat (w.1,(o,z,x.v.ck.n),w.2.2.1,w.2.2.2.1,w.2.2.2.2)).set o.toNat (w.1,(o,z,x.v.ck.n),w.2.2.1,(k,t,o),w.2.2.2.2)).set o.toNat (w.1,(o,z,x.v.ck.n),w.2.2.1,(k,t,o),x.v.ck.n))[o.toNat]?=some ((w.1,(o,z,x.v.ck.n),w.2.2.1,(k,t,o),x.v.ck.n):Tld):=List.getElem?_set_self (by first | omega | (simp only [List.length_set];omega))
  refine qS (qW [0,3,4] (e':=[(0,_),(3,_),(4,_)]) J ?_)
  refine qQ (qL (qC (.q 0 (.q 1 (.q 2 (.q 3 (.q 4 ((.l 5 [] ((.l 6 [] ((.l 7 [] (.done)))))))))))) Kr ?_))
  refine qK J J J J (qG (k:=2) J J J J υ'52 J ζ'3 J ?_)
  refine qP (j:=2) J J J J α'3 Tk Az (by rfl) ?_
  refine qG (k:=1) J J J J υ'52 J ζ'3 J ?_
  refine qP (j:=1) J J J J α'3 Tk Az (by rfl) ?_
  have sp_6:=Hi.touched_spec b mk (.pointer (some ⟨vb,0,none⟩)) (.int .i64 x.v.ck.th) (.slice va x.vars.length vc) x.kept o t
  refine qB J J J J J J κ'62 (sp_6) Ts ?_
  rintro ⟨⟩ -
  try simp only [Ca,Na]
  refine qV (cY J J J ω'119 (zs:=[.int .i64 0,.int .i64 0,.int .u64 0,.int .u64 0]) J ?_)
  intro b7
  refine qV (kR (j:=0) J J J J ζ'119 (us:=[_,_,_,_]) J J J Tk Az (by first | decide | (simp;done) | omega) ?_)
  simp only [setL,List.set]
  refine qV (qS (qW [0,3,4,7] (e':=[(0,_),(3,_),(4,_),(7,_)]) J ?_))
  refine qQ (qL (qL (qC (.q 0 (.q 1 (.q 2 (.done)))) Kr ?_)))
  refine qG (k:=0) J J J J υ'52 J ζ'50 J ?_
  refine qP (j:=0) J J J J α'50 Tk Az (by rfl) ?_
  refine qD J J J J J (cZ _ _ _ _) ?_
  refine qS (qQ ?_)
  refine qF J (fun hk1=>?_) (fun hk1=>?_)
  ·
   refine kM J (.q 0 (.q 1 (.q 2 (.q 3 (.q 4 (.q 5 (.q 6 (.q 8 ((.l 7 [] ((.l 9 [] (.q 10 ((.l 11 [] (.done)))))))))))))))) Kr ?_
   refine qK J J J J (qK J J J J (qZ J J J J (qG (k:=0) J J J J υ'48 J ζ'44 J ?_)))
   refine qP (j:=0) J J J J α'44 Tk Az (by rfl) ?_
   refine qG (k:=1) J J J J υ'52 J ζ'3 J ?_
   refine qP (j:=1) J J J J α'3 Tk Az (by rfl) ?_
   refine qG (k:=0) J J J J υ'119 J ζ'3 J ?_
   have sp_7:=clock_spec vb m1 (.pointer (some ⟨cb,0,none⟩)) (.slice po x.v.ck.pa.length poc) (.map (some m2)) (.map (some m3)) (.map (some m4)) F1 tb (ta) (tc) l t Om htF
   refine qB J J J J J J κ'60 (sp_7) Ts ?_
   rintro ⟨⟩ -
   try simp only [Ca,Na]
   refine qV (kR (j:=0) J J J J ζ'3 (us:=[_]) J J J Tk Az (by first | decide | (simp;done) | omega) ?_)
   simp only [setL,List.set]
   refine qV (qG (k:=2) J J J J υ'119 J ζ'97 J ?_)
   refine kR (j:=2) J J J J ζ'97 (us:=[_]) J J J Tk Az (by first | decide | (simp;done) | omega) ?_
   simp only [setL,List.set]
   refine qV (qS (qW [0,3,7] (e':=[(0,_),(3,_),(7,_)]) J ?_))
   refine qQ (kM J (.q 0 (.q 1 (.q 2 (.q 3 (.q 4 (.q 5 (.q 6 (.q 7 (.q 8 (.q 9 ((.l 10 [] (.done))))))))))))) Kr ?_)
   refine qK J J J J (qZ J J J J (qG (k:=3) J J J J υ'48 J ζ'46 J ?_))
   refine qP (j:=3) J J J J α'46 Tk Az (by rfl) ?_
   refine qG (k:=2) J J J J υ'52 J ζ'3 J ?_
   refine qP (j:=2) J J J J α'3 Tk Az (by rfl) ?_
   refine qG (k:=1) J J J J υ'52 J ζ'3 J ?_
   refine qP (j:=1) J J J J α'3 Tk Az (by rfl) ?_
   refine kB J J J J (vs:=[_,_]) (kQ υ'117 ω'117 (ps:=[(0,1),(1,1)]) ⟨rfl,ζ'3,rfl,ζ'3,trivial⟩ rfl) ?_
   refine kC J J J J α'119 ζ'119 Tk 0 (us:=[_,_,_,_]) Az J J ?_
   refine sX (ek:=ek2) (ev1:=evT) (F:=x.kept) (m:=mk) (k:=(o,t)) (v:=(x.v.ck.n,((x.kept (o,t)).getD (-1,-1,0,0)).2.1,l.getD t.toNat 0,((x.kept (o,t)).getD (-1,-1,0,0)).2.2.2)) (by first | exact .inl J | exact .inr J) J J J J υ'46 (sH υ'117 J J J J υ'3 υ'3 α'3 α'3 Kr) Tk ?_
   refine qV ?_
   have hfx:ntF x k t o=⟨x.v,(((x.vars.set o.toNat (w.1,(o,z,x.v.ck.n),w.2.2.1,w.2.2.2.1,w.2.2.2.2)).set o.toNat (w.1,(o,z,x.v.ck.n),w.2.2.1,(k,t,o),w.2.2.2.2)).set o.toNat (w.1,(o,z,x.v.ck.n),w.2.2.1,(k,t,o),x.v.ck.n)),(if (x.kept (o,t)).isSome then x.keys else x.keys++[(o,t)]),upd x.kept (o,t) (some (x.v.ck.n,((x.kept (o,t)).getD (-1,-1,0,0)).2.1,l.getD t.toNat 0,((x.kept (o,t)).getD (-1,-1,0,0)).2.2.2))⟩:=by
     have h5:(x.v.ck.n,((x.kept (o,t)).getD (-1,-1,0,0)).2.1,l.getD t.toNat 0,((x.kept (o,t)).getD (-1,-1,0,0)).2.2.2)=ntK x.v.ck.n k ((thF x.v t).getD t.toNat 0) (tchF x o t):=by
       rw [thF_eq hth];unfold ntK tchF
       first | rw [if_pos hk1] | rw [if_neg hk1]
     have h6:(((x.vars.set o.toNat (w.1,(o,z,x.v.ck.n),w.2.2.1,w.2.2.2.1,w.2.2.2.2)).set o.toNat (w.1,(o,z,x.v.ck.n),w.2.2.1,(k,t,o),w.2.2.2.2)).set o.toNat (w.1,(o,z,x.v.ck.n),w.2.2.1,(k,t,o),x.v.ck.n))=x.vars.set o.toNat (ntV x.v.ck.n k t o (agF x k t o) (x.vars.getD o.toNat t0)):=by
       rw [getD_some hw]
       simp only [set_two]
       congr 1
       symm
       rw [ntV_at hz,if_pos (by simpa using hra)];rw [show w.2.2.1=true from by simpa using hra]
     rw [h5,h6];rfl
   refine s_vecF tb ta tc l Ts ?_
   refine sQ (F:=F1) (T:=x.v.th) (S:=[]) t F1 x.v.th Ts (by simp) htF (fun _ _ _=>rfl) hth (fun _ _ _=>rfl) ?_
   refine vs_fold (b:=vb) x.v (pa:=pa) (pc:=pc) (po:=po) (poc:=poc) (cb:=cb) (m1:=m1) (m2:=m2) (m3:=m3) (m4:=m4) Ts (by rfl) (by rfl) ?_
   refine hs_fold (b:=b) (ntF x k t o) (pa:=pa) (pc:=pc) (po:=po) (poc:=poc) (vb:=vb) (va:=va) (vc:=vc) (mk:=mk) (K:=(if (x.kept (o,t)).isSome then x.keys else x.keys++[(o,t)])) Ts (by exact hfx) (by simp) (by rfl) ?_
   refine qS (qW [] (e':=[]) J ?_)
   refine sZ ?_
   refine ret0 J (()) (by first | rfl | (first | rfl | (congr 1;done) | (congr 1 <;> first | rfl | omega | (simp;done) | (simp;omega)))) (by trivial) ?_
   exact Tf
  refine kM J (.q 0 (.q 1 (.q 2 (.q 3 (.q 4 (.q 5 (.q 6 (.q 8 ((.l 7 [] ((.l 9 [] (.q 10 ((.l 11 [] (.done)))))))))))))))) Kr ?_
  refine qK J J J J (qK J J J J (qZ J J J J (qG (k:=0) J J J J υ'48 J ζ'44 J ?_)))
  refine qP (j:=0) J J J J α'44 Tk Az (by rfl) ?_
  refine qG (k:=1) J J J J υ'52 J ζ'3 J ?_
  refine qP (j:=1) J J J J α'3 Tk Az (by rfl) ?_
  refine qG (k:=1) J J J J υ'119 J ζ'3 J ?_
  have sp_8:=clock_spec vb m1 (.pointer (some ⟨cb,0,none⟩)) (.slice po x.v.ck.pa.length poc) (.map (some m2)) (.map (some m3)) (.map (some m4)) F1 tb (ta) (tc) l t Om htF
  refine qB J J J J J J κ'60 (sp_8) Ts ?_
  rintro ⟨⟩ -
  try simp only [Ca,Na]
  refine qV (kR (j:=1) J J J J ζ'3 (us:=[_]) J J J Tk Az (by first | decide | (simp;done) | omega) ?_)
  simp only [setL,List.set]
  refine qV (qG (k:=3) J J J J υ'119 J ζ'97 J ?_)
  refine kR (j:=3) J J J J ζ'97 (us:=[_]) J J J Tk Az (by first | decide | (simp;done) | omega) ?_
  simp only [setL,List.set]
  refine qV (qS (qW [0,3,7] (e':=[(0,_),(3,_),(7,_)]) J ?_))
  refine qQ (kM J (.q 0 (.q 1 (.q 2 (.q 3 (.q 4 (.q 5 (.q 6 (.q 7 (.q 8 (.q 9 ((.l 10 [] (.done))))))))))))) Kr ?_)
  refine qK J J J J (qZ J J J J (qG (k:=3) J J J J υ'48 J ζ'46 J ?_))
  refine qP (j:=3) J J J J α'46 Tk Az (by rfl) ?_
  refine qG (k:=2) J J J J υ'52 J ζ'3 J ?_
  refine qP (j:=2) J J J J α'3 Tk Az (by rfl) ?_
  refine qG (k:=1) J J J J υ'52 J ζ'3 J ?_
  refine qP (j:=1) J J J J α'3 Tk Az (by rfl) ?_
  refine kB J J J J (vs:=[_,_]) (kQ υ'117 ω'117 (ps:=[(0,1),(1,1)]) ⟨rfl,ζ'3,rfl,ζ'3,trivial⟩ rfl) ?_
  refine kC J J J J α'119 ζ'119 Tk 0 (us:=[_,_,_,_]) Az J J ?_
  refine sX (ek:=ek2) (ev1:=evT) (F:=x.kept) (m:=mk) (k:=(o,t)) (v:=(((x.kept (o,t)).getD (-1,-1,0,0)).1,x.v.ck.n,((x.kept (o,t)).getD (-1,-1,0,0)).2.2.1,l.getD t.toNat 0)) (by first | exact .inl J | exact .inr J) J J J J υ'46 (sH υ'117 J J J J υ'3 υ'3 α'3 α'3 Kr) Tk ?_
  refine qV ?_
  have hfx:ntF x k t o=⟨x.v,(((x.vars.set o.toNat (w.1,(o,z,x.v.ck.n),w.2.2.1,w.2.2.2.1,w.2.2.2.2)).set o.toNat (w.1,(o,z,x.v.ck.n),w.2.2.1,(k,t,o),w.2.2.2.2)).set o.toNat (w.1,(o,z,x.v.ck.n),w.2.2.1,(k,t,o),x.v.ck.n)),(if (x.kept (o,t)).isSome then x.keys else x.keys++[(o,t)]),upd x.kept (o,t) (some (((x.kept (o,t)).getD (-1,-1,0,0)).1,x.v.ck.n,((x.kept (o,t)).getD (-1,-1,0,0)).2.2.1,l.getD t.toNat 0))⟩:=by
    have h5:(((x.kept (o,t)).getD (-1,-1,0,0)).1,x.v.ck.n,((x.kept (o,t)).getD (-1,-1,0,0)).2.2.1,l.getD t.toNat 0)=ntK x.v.ck.n k ((thF x.v t).getD t.toNat 0) (tchF x o t):=by
      rw [thF_eq hth];unfold ntK tchF
      first | rw [if_pos hk1] | rw [if_neg hk1]
    have h6:(((x.vars.set o.toNat (w.1,(o,z,x.v.ck.n),w.2.2.1,w.2.2.2.1,w.2.2.2.2)).set o.toNat (w.1,(o,z,x.v.ck.n),w.2.2.1,(k,t,o),w.2.2.2.2)).set o.toNat (w.1,(o,z,x.v.ck.n),w.2.2.1,(k,t,o),x.v.ck.n))=x.vars.set o.toNat (ntV x.v.ck.n k t o (agF x k t o) (x.vars.getD o.toNat t0)):=by
      rw [getD_some hw]
      simp only [set_two]
      congr 1
      symm
      rw [ntV_at hz,if_pos (by simpa using hra)];rw [show w.2.2.1=true from by simpa using hra]
    rw [h5,h6];rfl
  refine s_vecF tb ta tc l Ts ?_
  refine sQ (F:=F1) (T:=x.v.th) (S:=[]) t F1 x.v.th Ts (by simp) htF (fun _ _ _=>rfl) hth (fun _ _ _=>rfl) ?_
  refine vs_fold (b:=vb) x.v (pa:=pa) (pc:=pc) (po:=po) (poc:=poc) (cb:=cb) (m1:=m1) (m2:=m2) (m3:=m3) (m4:=m4) Ts (by rfl) (by rfl) ?_
  refine hs_fold (b:=b) (ntF x k t o) (pa:=pa) (pc:=pc) (po:=po) (poc:=poc) (vb:=vb) (va:=va) (vc:=vc) (mk:=mk) (K:=(if (x.kept (o,t)).isSome then x.keys else x.keys++[(o,t)])) Ts (by exact hfx) (by simp) (by rfl) ?_
  refine qS (qW [] (e':=[]) J ?_)
  refine sZ ?_
  refine ret0 J (()) (by first | rfl | (first | rfl | (congr 1;done) | (congr 1 <;> first | rfl | omega | (simp;done) | (simp;omega)))) (by trivial) ?_
  exact Tf
 refine qH (qQ (qL (qC (.q 0 (.q 1 (.q 2 (.q 3 (.q 4 (.q 5 ((.l 6 [] (.q 7 (.q 8 ((.l 9 [] (.done))))))))))))) Kr ?_)))
 refine qK J J J J (qK J J J J (kC J J J J α'52 ζ'52 Tk 0 (us:=[_,_,_]) Az J J ?_))
 refine qK J J J J (qZ J J J J (qG (k:=7) J J J J υ'90 J ζ'52 J ?_))
 refine sC (j:=7) (k:=o.toNat) (q:=(w.1,w.2.1,w.2.2.1,(k,t,o),w.2.2.2.2)) (enc:=encD) (off:=io22) J J J J ζ'52 (us:=[_,_,_]) J J J ha22 encD_len hw Tk (by first | rfl | exact (Ad _).symm | omega) (by first | decide | exact Nat.le_of_ble_eq_true J) (by rfl) ?_
 refine qV ?_
 have hs8:(x.vars.set o.toNat (w.1,w.2.1,w.2.2.1,(k,t,o),w.2.2.2.2))[o.toNat]?=some ((w.1,w.2.1,w.2.2.1,(k,t,o),w.2.2.2.2):Tld):=List.getElem?_set_self (by first | omega | (simp only [List.length_set];omega))
 refine qZ J J J J (qG (k:=10) J J J J υ'90 J ζ'3 J ?_)
 refine sC (j:=10) (k:=o.toNat) (q:=(w.1,w.2.1,w.2.2.1,(k,t,o),x.v.ck.n)) (enc:=encD) (off:=io22) J J J J ζ'3 (us:=[_]) J J J ha22 encD_len hs8 Tk (by first | rfl | exact (Ad _).symm | omega) (by first | decide | exact Nat.le_of_ble_eq_true J) (by rfl) ?_
 refine qV ?_
 have hs9:((x.vars.set o.toNat (w.1,w.2.1,w.2.2.1,(k,t,o),w.2.2.2.2)).set o.toNat (w.1,w.2.1,w.2.2.1,(k,t,o),x.v.ck.n))[o.toNat]?=some ((w.1,w.2.1,w.2.2.1,(k,t,o),x.v.ck.n):Tld):=List.getElem?_set_self (by first | omega | (simp only [List.length_set];omega))
 refine qS (qW [0,3,4] (e':=[(0,_),(3,_),(4,_)]) J ?_)
 refine qQ (qL (qC (.q 0 (.q 1 (.q 2 (.q 3 (.q 4 ((.l 5 [] ((.l 6 [] ((.l 7 [] (.done)))))))))))) Kr ?_))
 refine qK J J J J (qG (k:=2) J J J J υ'52 J ζ'3 J ?_)
 refine qP (j:=2) J J J J α'3 Tk Az (by rfl) ?_
 refine qG (k:=1) J J J J υ'52 J ζ'3 J ?_
 refine qP (j:=1) J J J J α'3 Tk Az (by rfl) ?_
 have sp_9:=Hi.touched_spec b mk (.pointer (some ⟨vb,0,none⟩)) (.int .i64 x.v.ck.th) (.slice va x.vars.length vc) x.kept o t
 refine qB J J J J J J κ'62 (sp_9) Ts ?_
 rintro ⟨⟩ -
 try simp only [Ca,Na]
 refine qV (cY J J J ω'119 (zs:=[.int .i64 0,.int .i64 0,.int .u64 0,.int .u64 0]) J ?_)
 intro b7
 refine qV (kR (j:=0) J J J J ζ'119 (us:=[_,_,_,_]) J J J Tk Az (by first | decide | (simp;done) | omega) ?_)
 simp only [setL,List.set]
 refine qV (qS (qW [0,3,4,7] (e':=[(0,_),(3,_),(4,_),(7,_)]) J ?_))
 refine qQ (qL (qL (qC (.q 0 (.q 1 (.q 2 (.done)))) Kr ?_)))
 refine qG (k:=0) J J J J υ'52 J ζ'50 J ?_
 refine qP (j:=0) J J J J α'50 Tk Az (by rfl) ?_
 refine qD J J J J J (cZ _ _ _ _) ?_
 refine qS (qQ ?_)
 refine qF J (fun hk1=>?_) (fun hk1=>?_)
 ·
  refine kM J (.q 0 (.q 1 (.q 2 (.q 3 (.q 4 (.q 5 (.q 6 (.q 8 ((.l 7 [] ((.l 9 [] (.q 10 ((.l 11 [] (.done)))))))))))))))) Kr ?_
  refine qK J J J J (qK J J J J (qZ J J J J (qG (k:=0) J J J J υ'48 J ζ'44 J ?_)))
  refine qP (j:=0) J J J J α'44 Tk Az (by rfl) ?_
  refine qG (k:=1) J J J J υ'52 J ζ'3 J ?_
  refine qP (j:=1) J J J J α'3 Tk Az (by rfl) ?_
  refine qG (k:=0) J J J J υ'119 J ζ'3 J ?_
  have sp_10:=clock_spec vb m1 (.pointer (some ⟨cb,0,none⟩)) (.slice po x.v.ck.pa.length poc) (.map (some m2)) (.map (some m3)) (.map (some m4)) F1 tb (ta) (tc) l t Om htF
  refine qB J J J J J J κ'60 (sp_10) Ts ?_
  rintro ⟨⟩ -
  try simp only [Ca,Na]
  refine qV (kR (j:=0) J J J J ζ'3 (us:=[_]) J J J Tk Az (by first | decide | (simp;done) | omega) ?_)
  simp only [setL,List.set]
  refine qV (qG (k:=2) J J J J υ'119 J ζ'97 J ?_)
  refine kR (j:=2) J J J J ζ'97 (us:=[_]) J J J Tk Az (by first | decide | (simp;done) | omega) ?_
  simp only [setL,List.set]
  refine qV (qS (qW [0,3,7] (e':=[(0,_),(3,_),(7,_)]) J ?_))
  refine qQ (kM J (.q 0 (.q 1 (.q 2 (.q 3 (.q 4 (.q 5 (.q 6 (.q 7 (.q 8 (.q 9 ((.l 10 [] (.done))))))))))))) Kr ?_)
  refine qK J J J J (qZ J J J J (qG (k:=3) J J J J υ'48 J ζ'46 J ?_))
  refine qP (j:=3) J J J J α'46 Tk Az (by rfl) ?_
  refine qG (k:=2) J J J J υ'52 J ζ'3 J ?_
  refine qP (j:=2) J J J J α'3 Tk Az (by rfl) ?_
  refine qG (k:=1) J J J J υ'52 J ζ'3 J ?_
  refine qP (j:=1) J J J J α'3 Tk Az (by rfl) ?_
  refine kB J J J J (vs:=[_,_]) (kQ υ'117 ω'117 (ps:=[(0,1),(1,1)]) ⟨rfl,ζ'3,rfl,ζ'3,trivial⟩ rfl) ?_
  refine kC J J J J α'119 ζ'119 Tk 0 (us:=[_,_,_,_]) Az J J ?_
  refine sX (ek:=ek2) (ev1:=evT) (F:=x.kept) (m:=mk) (k:=(o,t)) (v:=(x.v.ck.n,((x.kept (o,t)).getD (-1,-1,0,0)).2.1,l.getD t.toNat 0,((x.kept (o,t)).getD (-1,-1,0,0)).2.2.2)) (by first | exact .inl J | exact .inr J) J J J J υ'46 (sH υ'117 J J J J υ'3 υ'3 α'3 α'3 Kr) Tk ?_
  refine qV ?_
  have hfx:ntF x k t o=⟨x.v,((x.vars.set o.toNat (w.1,w.2.1,w.2.2.1,(k,t,o),w.2.2.2.2)).set o.toNat (w.1,w.2.1,w.2.2.1,(k,t,o),x.v.ck.n)),(if (x.kept (o,t)).isSome then x.keys else x.keys++[(o,t)]),upd x.kept (o,t) (some (x.v.ck.n,((x.kept (o,t)).getD (-1,-1,0,0)).2.1,l.getD t.toNat 0,((x.kept (o,t)).getD (-1,-1,0,0)).2.2.2))⟩:=by
    have h5:(x.v.ck.n,((x.kept (o,t)).getD (-1,-1,0,0)).2.1,l.getD t.toNat 0,((x.kept (o,t)).getD (-1,-1,0,0)).2.2.2)=ntK x.v.ck.n k ((thF x.v t).getD t.toNat 0) (tchF x o t):=by
      rw [thF_eq hth];unfold ntK tchF
      first | rw [if_pos hk1] | rw [if_neg hk1]
    have h6:((x.vars.set o.toNat (w.1,w.2.1,w.2.2.1,(k,t,o),w.2.2.2.2)).set o.toNat (w.1,w.2.1,w.2.2.1,(k,t,o),x.v.ck.n))=x.vars.set o.toNat (ntV x.v.ck.n k t o (agF x k t o) (x.vars.getD o.toNat t0)):=by
      rw [getD_some hw]
      simp only [set_two]
      congr 1
      symm
      rw [ntV_no Om]
    rw [h5,h6];rfl
  refine s_vecF tb ta tc l Ts ?_
  refine sQ (F:=F1) (T:=x.v.th) (S:=[]) t F1 x.v.th Ts (by simp) htF (fun _ _ _=>rfl) hth (fun _ _ _=>rfl) ?_
  refine vs_fold (b:=vb) x.v (pa:=pa) (pc:=pc) (po:=po) (poc:=poc) (cb:=cb) (m1:=m1) (m2:=m2) (m3:=m3) (m4:=m4) Ts (by rfl) (by rfl) ?_
  refine hs_fold (b:=b) (ntF x k t o) (pa:=pa) (pc:=pc) (po:=po) (poc:=poc) (vb:=vb) (va:=va) (vc:=vc) (mk:=mk) (K:=(if (x.kept (o,t)).isSome then x.keys else x.keys++[(o,t)])) Ts (by exact hfx) (by simp) (by rfl) ?_
  refine qS (qW [] (e':=[]) J ?_)
  refine sZ ?_
  refine ret0 J (()) (by first | rfl | (first | rfl | (congr 1;done) | (congr 1 <;> first | rfl | omega | (simp;done) | (simp;omega)))) (by trivial) ?_
  exact Tf
 refine kM J (.q 0 (.q 1 (.q 2 (.q 3 (.q 4 (.q 5 (.q 6 (.q 8 ((.l 7 [] ((.l 9 [] (.q 10 ((.l 11 [] (.done)))))))))))))))) Kr ?_
 refine qK J J J J (qK J J J J (qZ J J J J (qG (k:=0) J J J J υ'48 J ζ'44 J ?_)))
 refine qP (j:=0) J J J J α'44 Tk Az (by rfl) ?_
 refine qG (k:=1) J J J J υ'52 J ζ'3 J ?_
 refine qP (j:=1) J J J J α'3 Tk Az (by rfl) ?_
 refine qG (k:=1) J J J J υ'119 J ζ'3 J ?_
 have sp_11:=clock_spec vb m1 (.pointer (some ⟨cb,0,none⟩)) (.slice po x.v.ck.pa.length poc) (.map (some m2)) (.map (some m3)) (.map (some m4)) F1 tb (ta) (tc) l t Om htF
 refine qB J J J J J J κ'60 (sp_11) Ts ?_
 rintro ⟨⟩ -
 try simp only [Ca,Na]
 refine qV (kR (j:=1) J J J J ζ'3 (us:=[_]) J J J Tk Az (by first | decide | (simp;done) | omega) ?_)
 simp only [setL,List.set]
 refine qV (qG (k:=3) J J J J υ'119 J ζ'97 J ?_)
 refine kR (j:=3) J J J J ζ'97 (us:=[_]) J J J Tk Az (by first | decide | (simp;done) | omega) ?_
 simp only [setL,List.set]
 refine qV (qS (qW [0,3,7] (e':=[(0,_),(3,_),(7,_)]) J ?_))
 refine qQ (kM J (.q 0 (.q 1 (.q 2 (.q 3 (.q 4 (.q 5 (.q 6 (.q 7 (.q 8 (.q 9 ((.l 10 [] (.done))))))))))))) Kr ?_)
 refine qK J J J J (qZ J J J J (qG (k:=3) J J J J υ'48 J ζ'46 J ?_))
 refine qP (j:=3) J J J J α'46 Tk Az (by rfl) ?_
 refine qG (k:=2) J J J J υ'52 J ζ'3 J ?_
 refine qP (j:=2) J J J J α'3 Tk Az (by rfl) ?_
 refine qG (k:=1) J J J J υ'52 J ζ'3 J ?_
 refine qP (j:=1) J J J J α'3 Tk Az (by rfl) ?_
 refine kB J J J J (vs:=[_,_]) (kQ υ'117 ω'117 (ps:=[(0,1),(1,1)]) ⟨rfl,ζ'3,rfl,ζ'3,trivial⟩ rfl) ?_
 refine kC J J J J α'119 ζ'119 Tk 0 (us:=[_,_,_,_]) Az J J ?_
 refine sX (ek:=ek2) (ev1:=evT) (F:=x.kept) (m:=mk) (k:=(o,t)) (v:=(((x.kept (o,t)).getD (-1,-1,0,0)).1,x.v.ck.n,((x.kept (o,t)).getD (-1,-1,0,0)).2.2.1,l.getD t.toNat 0)) (by first | exact .inl J | exact .inr J) J J J J υ'46 (sH υ'117 J J J J υ'3 υ'3 α'3 α'3 Kr) Tk ?_
 refine qV ?_
 have hfx:ntF x k t o=⟨x.v,((x.vars.set o.toNat (w.1,w.2.1,w.2.2.1,(k,t,o),w.2.2.2.2)).set o.toNat (w.1,w.2.1,w.2.2.1,(k,t,o),x.v.ck.n)),(if (x.kept (o,t)).isSome then x.keys else x.keys++[(o,t)]),upd x.kept (o,t) (some (((x.kept (o,t)).getD (-1,-1,0,0)).1,x.v.ck.n,((x.kept (o,t)).getD (-1,-1,0,0)).2.2.1,l.getD t.toNat 0))⟩:=by
   have h5:(((x.kept (o,t)).getD (-1,-1,0,0)).1,x.v.ck.n,((x.kept (o,t)).getD (-1,-1,0,0)).2.2.1,l.getD t.toNat 0)=ntK x.v.ck.n k ((thF x.v t).getD t.toNat 0) (tchF x o t):=by
     rw [thF_eq hth];unfold ntK tchF
     first | rw [if_pos hk1] | rw [if_neg hk1]
   have h6:((x.vars.set o.toNat (w.1,w.2.1,w.2.2.1,(k,t,o),w.2.2.2.2)).set o.toNat (w.1,w.2.1,w.2.2.1,(k,t,o),x.v.ck.n))=x.vars.set o.toNat (ntV x.v.ck.n k t o (agF x k t o) (x.vars.getD o.toNat t0)):=by
     rw [getD_some hw]
     simp only [set_two]
     congr 1
     symm
     rw [ntV_no Om]
   rw [h5,h6];rfl
 refine s_vecF tb ta tc l Ts ?_
 refine sQ (F:=F1) (T:=x.v.th) (S:=[]) t F1 x.v.th Ts (by simp) htF (fun _ _ _=>rfl) hth (fun _ _ _=>rfl) ?_
 refine vs_fold (b:=vb) x.v (pa:=pa) (pc:=pc) (po:=po) (poc:=poc) (cb:=cb) (m1:=m1) (m2:=m2) (m3:=m3) (m4:=m4) Ts (by rfl) (by rfl) ?_
 refine hs_fold (b:=b) (ntF x k t o) (pa:=pa) (pc:=pc) (po:=po) (poc:=poc) (vb:=vb) (va:=va) (vc:=vc) (mk:=mk) (K:=(if (x.kept (o,t)).isSome then x.keys else x.keys++[(o,t)])) Ts (by exact hfx) (by simp) (by rfl) ?_
 refine qS (qW [] (e':=[]) J ?_)
 refine sZ ?_
 refine ret0 J (()) (by first | rfl | (first | rfl | (congr 1;done) | (congr 1 <;> first | rfl | omega | (simp;done) | (simp;omega)))) (by trivial) ?_
 exact Tf
end Go.Ab.Hi
set_option linter.unusedVariables false
set_option linter.unusedSimpArgs false
set_option maxRecDepth 100000
namespace Go.Ab.Hi
open Go Go.Proofs Go.Ab Go.Ab.Fe Go.Ab.Vc Go.Ab.Dj Go.Ab.So
theorem he_acc {x:HS} {k t o:Int} (hv:vcanF x.v k t o) (hk:k=1∨k=2):heF x k t o=⟨vnF x.v k t o,(ntF x k t o).vars,(ntF x k t o).keys,(ntF x k t o).kept⟩:=by rw [heF,if_pos hv,accF,if_pos hk]
theorem he_no {x:HS} {k t o:Int} (hv:vcanF x.v k t o) (hk:¬ (k=1∨k=2)):heF x k t o=⟨vnF x.v k t o,x.vars,x.keys,x.kept⟩:=by rw [heF,if_pos hv,accF,if_neg hk]
/-- The pairs that are told. -/
def prF (vs:List Tld):List T3:=(vs.filter (fun w=>w.2.2.1)).map (·.1)
theorem prF_next {vs:List Tld} {i:Nat} {w:Tld} (h:vs[i]?=some w):prF (vs.take (i+1))=prF (vs.take i)++(if w.2.2.1=true then [w.1] else []):=by
  unfold prF
  rw [List.take_add_one,h]
  simp only [Option.toList_some,List.filter_append,List.map_append]
  congr 1
  by_cases hw:w.2.2.1=true <;> simp [hw]
theorem prF_len (vs:List Tld):(prF vs).length≤vs.length:=by
  unfold prF
  rw [List.length_map];exact List.length_filter_le _ _
/-- What is told of a variable, if there is one. -/
def wH (x:HS) (z:Int):Tld:=if 0≤z then (x.vars[z.toNat]?).getD t0 else t0
theorem wH_nat {x:HS} {i:Nat} {w:Tld} (h:x.vars[i]?=some w):wH x (i:Int)=w:=by rw [wH,if_pos Om,Int.toNat_natCast,h];rfl
theorem wH_none {x:HS} {z:Int} (h:z < 0∨(x.vars.length:Int)≤z):wH x z=t0:=by
  unfold wH;split
  · rw [List.getElem?_eq_none Om];rfl
  · rfl
theorem wH_cases (x:HS) (z:Int):(∃ (i:Nat) (w:Tld),z=i∧x.vars[i]?=some w)∨(z < 0∨(x.vars.length:Int)≤z):=by
  by_cases h:0≤z∧z < x.vars.length
  · obtain ⟨w,hw⟩:=cX (l:=x.vars) (i:=z.toNat) Om
    exact .inl ⟨z.toNat,w,by omega,hw⟩
  · exact .inr Om
theorem event_spec (pa:Option Addr) (pc:Nat) (po:Option Addr) (poc b:Nat) (x:HS) (hx:SInv x) (hn:x.v.ck.n≤4000000000000) (pl:List Int) (hpl:x.v.ck.pa=pl) (k t o:Int):Spec Tryz.prog 15 [.pointer (some ⟨b,0,none⟩),.agg #[.int .i64 k,.int .i64 t,.int .i64 o]] [hsR pa pc po poc b x,own 1 encZ pa pc pl,own 1 encZ po poc pl] (fun (_:Unit)=>.int .i64 (heE x k t o)) (fun _=>True) (fun _=>[hsR pa pc po poc b (heF x k t o),own 1 encZ pa pc pl,own 1 encZ po poc pl]):=by
 refine kS (n:=30) Tryz.func15 J J J ?_
 intro Γ w0
 simp only [argE,Ca,Na,Zd,Nat.reduceAdd]
 refine qL (qC ((.l 0 [] (.q 1 (.done)))) Kr ?_)
 refine sG J J J J (us:=[_,_,_]) J ?_
 intro b3
 refine qV (qR J J J J (qS (qQ (qL (qL (cP (A:=hsR pa pc po poc b x) Tk ?_))))))
 refine hs_open fun vb mk va vc=>?_
 refine qC (.q 0 ((.l 1 [] (.q 2 (.done))))) Kr ?_
 refine qK J J J J ?_
 have sp_1:=Hi.there_spec b vb (.int .i64 x.v.ck.th) (.slice va x.vars.length vc) (.map (some mk))
 refine qB J J J J J J κ'23 (sp_1) Ts ?_
 rintro ⟨⟩ -
 try simp only [Ca,Na]
 refine qV (rK J J J J ?_)
 refine kF 7 J (v':=.bool false) J ?_
 refine qS (qW [0,3,7] (e':=[(0,_),(3,_),(7,_)]) J ?_)
 refine qQ (kN J ?_)
 refine qH (qQ (qL (qL (kM J (.q 0 (.q 1 (.q 2 (.q 3 (.q 4 ((.l 5 [] (.q 6 (.done))))))))) Kr ?_))))
 refine qK J J J J (qZ J J J J (qG (k:=0) J J J J υ'48 J ζ'44 J ?_))
 refine qP (j:=0) J J J J α'44 Tk Az (by rfl) ?_
 refine kC J J J J α'52 ζ'52 Tk 0 (us:=[_,_,_]) Az J J ?_
 have sp_2:=Dj.can_spec pa pc po poc vb x.v hx.v k t o
 refine qB J J J J J J Tryz.call26 (sp_2) Ts ?_
 rintro ⟨⟩ -
 try simp only [Ca,Na]
 refine qV (rK J J J J ?_)
 refine qS (qW [0,3,14] (e':=[(0,_),(3,_),(14,_)]) J ?_)
 refine qQ ?_
 refine c_cond_np J (fun hv=>?_) (fun hv=>?_)
 ·
  refine qL (qC (.q 0 (.done)) Kr ?_)
  refine qR J J J J (qS (qQ (qJ (qN (hs_fold (b:=b) x (pa:=pa) (pc:=pc) (po:=po) (poc:=poc) (vb:=vb) (va:=va) (vc:=vc) (mk:=mk) (K:=x.keys) Ts (by rfl) (by rfl) (by rfl) ?_)))))
  rw [show heF x k t o=x from if_neg hv]
  refine cR J J (()) (by rw [heE,if_neg hv]) (by trivial) ?_
  exact Tf
 refine qH (qQ (qL (qL (qC (.q 0 (.q 1 (.done))) Kr ?_))))
 refine qG (k:=0) J J J J υ'52 J ζ'50 J ?_
 refine qP (j:=0) J J J J α'50 Tk Az (by rfl) ?_
 refine qS (qQ (kV (qL (kV (kV (qL (qL (qL ?_))))))))
 refine qC (.q 0 (.q 1 (.done))) Kr ?_
 refine qD J J J J J (cZ _ _ _ _) ?_
 refine qR J J J J (qS (qQ ?_))
 refine qF J (fun k1=>?_) (fun k1=>?_)
 ·
  refine kF 17 J (v':=.bool true) (by rw [decide_eq_true k1]) ?_
  refine cS (qY (qY (kK (kG (qQ (qL (qC (.q 0 (.q 1 ((.l 2 [] (.done))))) Kr ?_)))))))
  refine qK J J J J (kC J J J J α'52 ζ'52 Tk 0 (us:=[_,_,_]) Az J J ?_)
  refine hs_fold (b:=b) x (pa:=pa) (pc:=pc) (po:=po) (poc:=poc) (vb:=vb) (va:=va) (vc:=vc) (mk:=mk) (K:=x.keys) Ts (by rfl) (by rfl) (by rfl) ?_
  have sp_3:=Hi.note_spec pa pc po poc b x hx hn k t o hv.1 Om
  refine qB J J J J J J Tryz.call27 (sp_3) Ts ?_
  rintro ⟨⟩ -
  try simp only [Ca,Na]
  refine qV (cP (A:=hsR pa pc po poc b (ntF x k t o)) Tk ?_)
  refine hs_open fun vbn mkn van vcn=>?_
  simp only [show (ntF x k t o).v=x.v from rfl]
  refine qS (qW [0,3] (e':=[(0,_),(3,_)]) J ?_)
  refine qQ (cS (kK (qQ (qL (kM J (.q 0 (.q 1 (.q 2 (.q 3 (.q 4 ((.l 5 [] (.done)))))))) Kr ?_)))))
  refine qK J J J J (qZ J J J J (qG (k:=0) J J J J υ'48 J ζ'44 J ?_))
  refine qP (j:=0) J J J J α'44 Tk Az (by rfl) ?_
  refine kC J J J J α'52 ζ'52 Tk 0 (us:=[_,_,_]) Az J J ?_
  have sp_4:=Dj.next_spec pa pc po poc vbn x.v hx.v Om pl hpl k t o hv
  refine qB J J J J J J Tryz.call28 (sp_4) Ts ?_
  rintro ⟨⟩ -
  try simp only [Ca,Na]
  refine qV (hs_fold (b:=b) (heF x k t o) (pa:=pa) (pc:=pc) (po:=po) (poc:=poc) (vb:=vbn) (va:=van) (vc:=vcn) (mk:=mkn) (K:=(ntF x k t o).keys) Ts (by exact he_acc hv Om) (by rfl) (by exact (vnn hv.1).2.2.2.symm) ?_)
  refine qS (qW [] (e':=[]) J ?_)
  refine qQ (qL (qC (.q 0 (.done)) Kr ?_))
  refine qR J J J J (qS (qQ (qJ (cR J J (()) (by rw [heE,if_pos hv]) (by trivial) ?_))))
  exact Tf
 refine kF 17 J (v':=.bool false) (by rw [decide_eq_false k1]) ?_
 refine qH (qQ (qL (qC (.q 0 (.q 1 (.done))) Kr ?_)))
 refine qD J J J J J (cZ _ _ _ _) ?_
 refine qR J J J J (qS (qW [0,3,19] (e':=[(0,_),(3,_),(19,_)]) J ?_))
 refine qQ ?_
 refine qF J (fun k2=>?_) (fun k2=>?_)
 ·
  refine kF 19 J (v':=.bool true) (by rw [decide_eq_true k2]) ?_
  refine cS (qY (kP J ?_))
  refine kK (qQ (qL (qC (.q 0 (.q 1 ((.l 2 [] (.done))))) Kr ?_)))
  refine qK J J J J (kC J J J J α'52 ζ'52 Tk 0 (us:=[_,_,_]) Az J J ?_)
  refine hs_fold (b:=b) x (pa:=pa) (pc:=pc) (po:=po) (poc:=poc) (vb:=vb) (va:=va) (vc:=vc) (mk:=mk) (K:=x.keys) Ts (by rfl) (by rfl) (by rfl) ?_
  have sp_5:=Hi.note_spec pa pc po poc b x hx hn k t o hv.1 Om
  refine qB J J J J J J Tryz.call27 (sp_5) Ts ?_
  rintro ⟨⟩ -
  try simp only [Ca,Na]
  refine qV (cP (A:=hsR pa pc po poc b (ntF x k t o)) Tk ?_)
  refine hs_open fun vbn mkn van vcn=>?_
  simp only [show (ntF x k t o).v=x.v from rfl]
  refine qS (qW [0,3] (e':=[(0,_),(3,_)]) J ?_)
  refine qQ (cS (kK (qQ (qL (kM J (.q 0 (.q 1 (.q 2 (.q 3 (.q 4 ((.l 5 [] (.done)))))))) Kr ?_)))))
  refine qK J J J J (qZ J J J J (qG (k:=0) J J J J υ'48 J ζ'44 J ?_))
  refine qP (j:=0) J J J J α'44 Tk Az (by rfl) ?_
  refine kC J J J J α'52 ζ'52 Tk 0 (us:=[_,_,_]) Az J J ?_
  have sp_6:=Dj.next_spec pa pc po poc vbn x.v hx.v Om pl hpl k t o hv
  refine qB J J J J J J Tryz.call28 (sp_6) Ts ?_
  rintro ⟨⟩ -
  try simp only [Ca,Na]
  refine qV (hs_fold (b:=b) (heF x k t o) (pa:=pa) (pc:=pc) (po:=po) (poc:=poc) (vb:=vbn) (va:=van) (vc:=vcn) (mk:=mkn) (K:=(ntF x k t o).keys) Ts (by exact he_acc hv Om) (by rfl) (by exact (vnn hv.1).2.2.2.symm) ?_)
  refine qS (qW [] (e':=[]) J ?_)
  refine qQ (qL (qC (.q 0 (.done)) Kr ?_))
  refine qR J J J J (qS (qQ (qJ (cR J J (()) (by rw [heE,if_pos hv]) (by trivial) ?_))))
  exact Tf
 refine kF 19 J (v':=.bool false) (by rw [decide_eq_false k2]) ?_
 refine qH (qQ (cS (kP J ?_)))
 refine kP J ?_
 refine qY (kK (qQ (qL (kM J (.q 0 (.q 1 (.q 2 (.q 3 (.q 4 ((.l 5 [] (.done)))))))) Kr ?_))))
 refine qK J J J J (qZ J J J J (qG (k:=0) J J J J υ'48 J ζ'44 J ?_))
 refine qP (j:=0) J J J J α'44 Tk Az (by rfl) ?_
 refine kC J J J J α'52 ζ'52 Tk 0 (us:=[_,_,_]) Az J J ?_
 have sp_7:=Dj.next_spec pa pc po poc vb x.v hx.v Om pl hpl k t o hv
 refine qB J J J J J J Tryz.call28 (sp_7) Ts ?_
 rintro ⟨⟩ -
 try simp only [Ca,Na]
 refine qV (hs_fold (b:=b) (heF x k t o) (pa:=pa) (pc:=pc) (po:=po) (poc:=poc) (vb:=vb) (va:=va) (vc:=vc) (mk:=mk) (K:=x.keys) Ts (by exact he_no hv Om) (by rfl) (by exact (vnn hv.1).2.2.2.symm) ?_)
 refine qS (qW [] (e':=[]) J ?_)
 refine qQ (qL (qC (.q 0 (.done)) Kr ?_))
 refine qR J J J J (qS (qQ (qJ (cR J J (()) (by rw [heE,if_pos hv]) (by trivial) ?_))))
 exact Tf
theorem events_spec (pa:Option Addr) (pc:Nat) (po:Option Addr) (poc b:Nat) (x:HS) (hx:SInv x) (hn:x.v.ck.n≤2000000000000) (pl:List Int) (hpl:x.v.ck.pa=pl) (xs:List T3) (ao:Option Addr) (n c:Nat) (A:HProp) (hr:RdS A ao (xs.flatMap enc3)) (hxn:xs.length=n) (hb:n≤4000000):Spec Tryz.prog 10 [.pointer (some ⟨b,0,none⟩),.slice ao n c] [A,hsR pa pc po poc b x,own 1 encZ pa pc pl,own 1 encZ po poc pl] (fun (i:Nat)=>.tuple #[.int .i64 ((i:Nat):Int),.int .i64 (if i=n then 0 else 6)]) (fun i=>i≤n∧okH x (xs.take i)∧(i < n→∀ e,xs[i]?=some e→¬ canH (hAll x (xs.take i)) e)) (fun i=>[A,hsR pa pc po poc b (hAll x (xs.take i)),own 1 encZ pa pc pl,own 1 encZ po poc pl]):=by
 refine kS (n:=29) Tryz.func10 J J J ?_
 intro Γ w0
 simp only [argE,Ca,Na,Zd,Nat.reduceAdd]
 refine qL (qC (.q 0 (.q 1 (.done))) Kr ?_)
 refine qR J J J J (qR J J J J (qS (qQ (qL (qL (qC (.q 0 ((.l 1 [] (.q 2 (.done))))) Kr ?_))))))
 refine qK J J J J (cP (A:=hsR pa pc po poc b x) Tk ?_)
 refine hs_open fun vb mk va vc=>?_
 have sp_1:=Hi.there_spec b vb (.int .i64 x.v.ck.th) (.slice va x.vars.length vc) (.map (some mk))
 refine qB J J J J J J κ'23 (sp_1) Ts ?_
 rintro ⟨⟩ -
 try simp only [Ca,Na]
 refine qV (hs_fold (b:=b) x (pa:=pa) (pc:=pc) (po:=po) (poc:=poc) (vb:=vb) (va:=va) (vc:=vc) (mk:=mk) (K:=x.keys) Ts (by rfl) (by rfl) (by rfl) ?_)
 refine rK J J J J ?_
 refine kF 11 J (v':=.bool false) J ?_
 refine qS (qW [0,1,11] (e':=[(0,_),(1,_),(11,_)]) J ?_)
 refine qQ (kN J ?_)
 refine qH (qQ (qL (qL (qC (.q 0 (.q 1 (.q 2 (.done)))) Kr ?_))))
 refine qK J J J J (sR J J J J υ'53 ?_)
 refine qK J J J J (qS (qQ (kV ?_)))
 refine sS (α:=Nat) (fun (i:Nat)=>i≤n∧(okH x (xs.take i))) (fun (i:Nat)=>[(14,.int .i64 ((i:Nat):Int))]) (fun (i:Nat)=>[hsR pa pc po poc b (hAll x (xs.take i)),own 1 encZ pa pc pl,own 1 encZ po poc pl]) (fun (i:Nat)=>n - i) [0,1,12,13] (er:=[(0,_),(1,_),(12,_),(13,_)]) J (0) ?_ (by exact ⟨rfl,trivial⟩) (by (try dsimp only);(try simp only [Ad,Zd]);(repeat ((with_reducible apply Z2);focus (first | (with_reducible (repeat (first | exact Z0 | apply Z1));done) | (repeat (first | exact Z0 | apply Z1)))));exact Z3) ?_
 · exact ⟨Nat.zero_le _,fun j e h=>by simp at h⟩
 rintro i ⟨hle_i,ho⟩
 try simp only [Ca,Na]
 obtain ⟨hdn,hdp,hdt,hdv⟩:=hAll_n (xs.take i) x
 rw [List.length_take] at hdn
 refine qL (qC (.q 0 (.done)) Kr ?_)
 refine qD J J J J J (sK _ _ _ _) ?_
 refine qS (qQ (qL ?_))
 refine qF J (fun hlt=>?_) (fun hlt=>?_)
 ·
  refine qH (qQ (qL (kV (qL (qC (.q 0 (.q 1 (.q 2 ((.l 3 [] (.q 4 ((.l 5 [] (.done))))))))) Kr ?_)))))
  refine qK J J J J ?_
  obtain ⟨e,he⟩:=cX (l:=xs) (i:=i) (by first | omega | (simp;done) | (simp;omega))
  refine q_idxR (sz:=2) (k:=i) J J J J J υ'53 ζ'52 (hr) he enc3_len (by first | rfl | omega) Om ?_
  intro ib17 io17 _ hd17
  refine q_loadN (vs:=[_,_,_]) J J J J α'52 ζ'52 Tk (hd17) J ?_
  refine cY J J J ω'52 (zs:=[.int .i64 0,.int .i64 0,.int .i64 0]) J ?_
  intro b7
  refine qV (qR J J J J (kR (j:=0) J J J J ζ'52 (us:=[_,_,_]) J J J Tk Az (by first | decide | (simp;done) | omega) ?_))
  simp only [setL,List.set]
  refine qV (qS (qW [0,1,6,7,12,13,14] (e':=[(0,_),(1,_),(6,_),(7,_),(12,_),(13,_),(14,_)]) J ?_))
  refine qQ (qL (qC (.q 0 (.q 1 ((.l 2 [] (.q 3 (.done)))))) Kr ?_))
  refine qK J J J J (kC J J J J α'52 ζ'52 Tk 0 (us:=[_,_,_]) Az J J ?_)
  have sp_2:=Hi.event_spec pa pc po poc b (hAll x (xs.take i)) (hAll_inv hx _) Om pl (hdp.trans hpl) e.1 e.2.1 e.2.2
  refine qB J J J J J J κ'15 (sp_2) Ts ?_
  rintro ⟨⟩ -
  try simp only [Ca,Na]
  refine qV (qR J J J J (qS (qW [0,1,6,8,12,13,14] (e':=[(0,_),(1,_),(6,_),(8,_),(12,_),(13,_),(14,_)]) J ?_)))
  refine qQ (qL (qC (.q 0 (.q 1 (.done))) Kr ?_))
  refine qK J J J J (qD J J J J J (b_neq _ _ _ _) ?_)
  refine qS (qQ ?_)
  refine qF J (fun hne=>?_) (fun hne=>?_)
  ·
   have hncan:¬ canH (hAll x (xs.take i)) e:=fun h=>hne (if_pos h)
   rw [show (heF (hAll x (xs.take i)) e.1 e.2.1 e.2.2)=(hAll x (xs.take i)) from if_neg hncan]
   refine qL (qC (.q 0 (.q 1 (.q 2 (.q 3 (.done))))) Kr ?_)
   refine qK J J J J (qK J J J J (qR J J J J (qR J J J J (qS (qW [4,5] (e':=[(4,_),(5,_)]) J ?_)))))
   refine qQ (qJ (kH (qN (qN (kH (qN (ret2 J J J (i) (by rw [if_neg Om,show heE (hAll x (xs.take i)) e.1 e.2.1 e.2.2=6 from if_neg hncan]) (by exact ⟨by omega,ho,fun _ e2 h2=>by rw [he] at h2;cases h2;exact hncan⟩) ?_)))))))
   exact Tf
  have hcan:canH (hAll x (xs.take i)) e:=Classical.byContradiction fun h=>hne (by rw [show heE (hAll x (xs.take i)) e.1 e.2.1 e.2.2=6 from if_neg h];decide)
  refine qH (kG (qQ (qC (.q 0 (.q 1 (.done))) Kr ?_)))
  refine qD J J J J J (cF _ (by exact kY Om Om)) ?_
  refine qK J J J J (qS (qW [0,1,12,13,14] (e':=[(0,_),(1,_),(12,_),(13,_),(14,_)]) J ?_))
  refine qQ ?_
  rw [show (heF (hAll x (xs.take i)) e.1 e.2.1 e.2.2)=hAll x (xs.take (i+1)) from (hAll_next he).symm]
  refine kZ (x:=i) (i+1) ?_ ?_ ?_ ?_
  · exact ⟨by omega,okH_next he ho hcan⟩
  · show n - (i+1) < n - i;omega
  · exact ⟨rfl,rfl,rfl,rfl,rfl,trivial⟩
  · (try simp only [Ca,Na]);exact Tf
 refine cS (qY (qY (kK (qQ (qL (qC (.q 0 (.q 1 (.q 2 (.q 3 (.done))))) Kr ?_))))))
 refine qK J J J J (sR J J J J υ'53 ?_)
 refine qR J J J J (qR J J J J (qS (qW [4,5] (e':=[(4,_),(5,_)]) J ?_)))
 refine qQ (qJ ?_)
 obtain rfl:i=n:=by omega
 refine ret2 J J J (i) (by rw [if_pos rfl]) (by exact ⟨Nat.le_refl _,ho,fun h=>absurd h (Nat.lt_irrefl _)⟩) ?_
 exact Tf
theorem len_spec (pa:Option Addr) (pc:Nat) (po:Option Addr) (poc b:Nat) (x:HS) (hx:SInv x):Spec Tryz.prog 45 [.pointer (some ⟨b,0,none⟩)] [hsR pa pc po poc b x] (fun (_:Unit)=>.int .i64 x.v.ck.n) (fun _=>True) (fun _=>[hsR pa pc po poc b x]):=by
 refine kS (n:=14) Tryz.func45 J J J ?_
 intro Γ w0
 simp only [argE,Ca,Na,Zd,Nat.reduceAdd]
 refine qL (qC (.q 0 (.done)) Kr ?_)
 refine qR J J J J (qS (qQ (qL (qL (cP (A:=hsR pa pc po poc b x) Tk ?_)))))
 refine hs_open fun vb mk va vc=>?_
 refine qC (.q 0 ((.l 1 [] (.q 2 (.done))))) Kr ?_
 refine qK J J J J ?_
 have sp_1:=Hi.there_spec b vb (.int .i64 x.v.ck.th) (.slice va x.vars.length vc) (.map (some mk))
 refine qB J J J J J J κ'23 (sp_1) Ts ?_
 rintro ⟨⟩ -
 try simp only [Ca,Na]
 refine qV (rK J J J J ?_)
 refine kF 5 J (v':=.bool false) J ?_
 refine qS (qQ (kN J ?_))
 refine qH (qQ (qL (cP (A:=vsR pa pc po poc vb x.v) Tk ?_)))
 refine vs_open fun cb m1 m2 m3 m4 F1 F2 F3 F4=>?_
 refine qC (.q 0 (.q 1 (.q 2 (.q 3 (.q 4 (.q 5 (.q 6 ((.l 7 [] (.q 8 (.done))))))))))) Kr ?_
 refine qK J J J J (qZ J J J J (qG (k:=0) J J J J υ'48 J ζ'44 J ?_))
 refine qP (j:=0) J J J J α'44 Tk Az (by rfl) ?_
 refine qZ J J J J (qG (k:=0) J J J J υ'86 J ζ'82 J ?_)
 refine qP (j:=0) J J J J α'82 Tk Az (by rfl) ?_
 have sp_2:=Fe.len_spec pa pc cb x.v.ck
 refine qB J J J J J J Tryz.call61 (sp_2) Ts ?_
 rintro ⟨⟩ -
 try simp only [Ca,Na]
 refine qV (qR J J J J (qS (qW [2] (e':=[(2,_)]) J ?_)))
 refine qQ (qJ (vs_fold (b:=vb) x.v (pa:=pa) (pc:=pc) (po:=po) (poc:=poc) (cb:=cb) (m1:=m1) (m2:=m2) (m3:=m3) (m4:=m4) Ts (by rfl) (by rfl) ?_))
 refine hs_fold (b:=b) x (pa:=pa) (pc:=pc) (po:=po) (poc:=poc) (vb:=vb) (va:=va) (vc:=vc) (mk:=mk) (K:=x.keys) Ts (by rfl) (by rfl) (by rfl) ?_
 refine cR J J (()) (by first | rfl | (first | rfl | (congr 1;done) | (congr 1 <;> first | rfl | omega | (simp;done) | (simp;omega)))) (by trivial) ?_
 exact Tf
theorem againstq_spec (pa:Option Addr) (pc:Nat) (po:Option Addr) (poc b:Nat) (x:HS) (hx:SInv x) (hn:x.v.ck.n≤4000000000000) (k t o:Int):Spec Tryz.prog 11 [.pointer (some ⟨b,0,none⟩),.agg #[.int .i64 k,.int .i64 t,.int .i64 o]] [hsR pa pc po poc b x] (fun (r:Option Addr × Nat)=>.tuple #[.slice r.1 (if canF x.v.ck k t o then agF x k t o else []).length r.2,.int .i64 (if canF x.v.ck k t o then 0 else 6)]) (fun r=>True) (fun r=>[hsR pa pc po poc b x,own 1 encZ r.1 r.2 (if canF x.v.ck k t o then agF x k t o else [])]):=by
 refine kS (n:=22) Tryz.func11 J J J ?_
 intro Γ w0
 simp only [argE,Ca,Na,Zd,Nat.reduceAdd]
 refine qL (qC ((.l 0 [] (.q 1 (.q 2 (.done))))) Kr ?_)
 refine sG J J J J (us:=[_,_,_]) J ?_
 intro b3
 refine qV (qR J J J J (qR J J J J (qS (qQ (qL (qL (cP (A:=hsR pa pc po poc b x) Tk ?_)))))))
 refine hs_open fun vb mk va vc=>?_
 refine cP (A:=vsR pa pc po poc vb x.v) Tk ?_
 refine vs_open fun cb m1 m2 m3 m4 F1 F2 F3 F4=>?_
 refine qC (.q 0 ((.l 1 [] (.q 2 (.done))))) Kr ?_
 refine qK J J J J ?_
 have sp_1:=Hi.there_spec b vb (.int .i64 x.v.ck.th) (.slice va x.vars.length vc) (.map (some mk))
 refine qB J J J J J J κ'23 (sp_1) Ts ?_
 rintro ⟨⟩ -
 try simp only [Ca,Na]
 refine qV (rK J J J J ?_)
 refine kF 8 J (v':=.bool false) J ?_
 refine qS (qW [0,3,8] (e':=[(0,_),(3,_),(8,_)]) J ?_)
 refine qQ (kN J ?_)
 refine qH (qQ (qL (qL (kM J (.q 0 (.q 1 (.q 2 (.q 3 (.q 4 (.q 5 (.q 6 (.q 7 ((.l 8 [] (.q 9 (.done)))))))))))) Kr ?_))))
 refine qK J J J J (qZ J J J J (qG (k:=0) J J J J υ'48 J ζ'44 J ?_))
 refine qP (j:=0) J J J J α'44 Tk Az (by rfl) ?_
 refine qZ J J J J (qG (k:=0) J J J J υ'86 J ζ'82 J ?_)
 refine qP (j:=0) J J J J α'82 Tk Az (by rfl) ?_
 refine kC J J J J α'52 ζ'52 Tk 0 (us:=[_,_,_]) Az J J ?_
 have sp_2:=Fe.can_spec pa pc cb x.v.ck hx.v.ck k t o
 refine qB J J J J J J Tryz.call24 (sp_2) Ts ?_
 rintro ⟨⟩ -
 try simp only [Ca,Na]
 refine qV (rK J J J J ?_)
 refine qS (qW [0,3,18] (e':=[(0,_),(3,_),(18,_)]) J ?_)
 refine qQ ?_
 refine c_cond_np J (fun hc=>?_) (fun hc=>?_)
 ·
  refine qL (qC (.q 0 (.q 1 (.done))) Kr ?_)
  refine qR J J J J (qR J J J J (qS (qQ (qJ (qN (cL (fun _ h=>sY (sz:=1) (enc:=encZ) h) ?_))))))
  refine vs_fold (b:=vb) x.v (pa:=pa) (pc:=pc) (po:=po) (poc:=poc) (cb:=cb) (m1:=m1) (m2:=m2) (m3:=m3) (m4:=m4) Ts (by rfl) (by rfl) ?_
  refine hs_fold (b:=b) x (pa:=pa) (pc:=pc) (po:=po) (poc:=poc) (vb:=vb) (va:=va) (vc:=vc) (mk:=mk) (K:=x.keys) Ts (by rfl) (by rfl) (by rfl) ?_
  rw [if_neg hc,if_neg hc]
  refine ret2 J J J ((none,0)) (by rfl) (by trivial) ?_
  exact Tf
 obtain ⟨l,hth⟩:=th_some hx.v (can_th hc)
 obtain ⟨h0,h1⟩:=th_rng hx.v (can_th hc)
 have hlc:=hx.v.thc _ _ hth
 have hkn:=hx.kn
 have hlen:=hx.len
 have hn0:=hx.v.ck.n0
 have hlg:=g_rng hlc.rng (by decide) t.toNat
 have hmx:maxC=281474976710655:=rfl
 have hagl:=agF_len x k t o
 refine qH (qQ (qL (s_rest_take (F:=F1) (T:=x.v.th) (S:=[]) t Tk (by simp) hth fun tv htF=>?_)))
 refine s_vec Tk fun tb ta tc hta=>?_
 subst hta
 refine qC (.q 0 (.q 1 ((.l 2 [] (.q 3 (.q 4 (.done))))))) Kr ?_
 refine qK J J J J (kC J J J J α'52 ζ'52 Tk 0 (us:=[_,_,_]) Az J J ?_)
 have sp_3:=Hi.against_spec b vb mk m1 tb (.int .i64 x.v.ck.th) (.slice va x.vars.length vc) (.pointer (some ⟨cb,0,none⟩)) (.slice po x.v.ck.pa.length poc) (.map (some m2)) (.map (some m3)) (.map (some m4)) x.kept F1  ta tc l x.keys k t o htF hx.nd hx.ks hx.kt Om
 refine qB J J J J J J Tryz.call25 (sp_3) Ts ?_
 rintro ⟨ga,gc⟩ -
 rw [show (if k=1∨k=2 then isort (x.keys.flatMap (agK x.kept k t o l)) else [])=agF x k t o from by unfold agF;rw [thF_eq hth]]
 try simp only [Ca,Na]
 refine qV (qR J J J J (qR J J J J (qS (qW [4,5] (e':=[(4,_),(5,_)]) J ?_))))
 refine qQ (qJ (s_vecF tb ta tc l Ts ?_))
 refine sQ (F:=F1) (T:=x.v.th) (S:=[]) t F1 x.v.th Ts (by simp) htF (fun _ _ _=>rfl) hth (fun _ _ _=>rfl) ?_
 refine vs_fold (b:=vb) x.v (pa:=pa) (pc:=pc) (po:=po) (poc:=poc) (cb:=cb) (m1:=m1) (m2:=m2) (m3:=m3) (m4:=m4) Ts (by rfl) (by rfl) ?_
 refine hs_fold (b:=b) x (pa:=pa) (pc:=pc) (po:=po) (poc:=poc) (vb:=vb) (va:=va) (vc:=vc) (mk:=mk) (K:=x.keys) Ts (by rfl) (by rfl) (by rfl) ?_
 rw [if_pos hc,if_pos hc]
 refine ret2 J J J ((ga,gc)) (by rfl) (by trivial) ?_
 exact Tf
theorem pairs_spec (pa:Option Addr) (pc:Nat) (po:Option Addr) (poc b:Nat) (x:HS) (hx:SInv x):Spec Tryz.prog 13 [.pointer (some ⟨b,0,none⟩)] [hsR pa pc po poc b x] (fun (r:Option Addr × Nat)=>.slice r.1 (prF x.vars).length r.2) (fun r=>True) (fun r=>[hsR pa pc po poc b x,own 3 enc3 r.1 r.2 (prF x.vars)]):=by
 refine kS (n:=26) Tryz.func13 J J J ?_
 intro Γ w0
 simp only [argE,Ca,Na,Zd,Nat.reduceAdd]
 have hva:=hx.v.ck.sh.va
 have hvl:=hx.len
 refine qL (qC (.q 0 (.done)) Kr ?_)
 refine qR J J J J (qS (qQ (qL (qC (.q 0 (.done)) Kr ?_))))
 refine qR J J J J (qS (qQ (qL (qL (cP (A:=hsR pa pc po poc b x) Tk ?_)))))
 refine hs_open fun vb mk va vc=>?_
 refine qC (.q 0 ((.l 1 [] (.done)))) Kr ?_
 refine qK J J J J ?_
 have sp_1:=Hi.there_spec b vb (.int .i64 x.v.ck.th) (.slice va x.vars.length vc) (.map (some mk))
 refine qB J J J J J J κ'23 (sp_1) Ts ?_
 rintro ⟨⟩ -
 try simp only [Ca,Na]
 refine qV (qS (qQ (cC J ?_)))
 refine qL (qC (.q 0 (.q 1 (.q 2 (.q 3 (.q 4 (.q 5 (.done))))))) Kr ?_)
 refine qK J J J J (qZ J J J J (qG (k:=2) J J J J υ'48 J ζ'45 J ?_))
 refine qP (j:=2) J J J J α'45 Tk Az (by rfl) ?_
 refine sR J J J J υ'45 ?_
 refine qK J J J J (qS (qW [3,11,12,13] (e':=[(3,_),(11,_),(12,_),(13,_)]) J ?_))
 refine qQ (kV (cL (fun _ h=>sY (sz:=3) (enc:=enc3) h) ?_))
 refine sS (α:=Nat × Option Addr × Nat) (fun (x_:Nat × Option Addr × Nat)=>match x_ with | (i,ga,gc)=>i≤x.vars.length) (fun (x_:Nat × Option Addr × Nat)=>match x_ with | (i,ga,gc)=>[(3,.slice ga ((prF (x.vars.take i)).length) gc),(13,.int .i64 ((i:Nat):Int))]) (fun (x_:Nat × Option Addr × Nat)=>match x_ with | (i,ga,gc)=>[own 3 enc3 ga gc (prF (x.vars.take i))]) (fun (x_:Nat × Option Addr × Nat)=>match x_ with | (i,ga,gc)=>x.vars.length - i) [11,12] (er:=[(11,_),(12,_)]) J (0,none,0) ?_ (by exact ⟨rfl,rfl,trivial⟩) (by (try dsimp only);(try simp only [Ad,Zd]);rw [List.take_zero,show prF ([]:List Tld)=[] from rfl];(repeat ((with_reducible apply Z2);focus (first | (with_reducible (repeat (first | exact Z0 | apply Z1));done) | (repeat (first | exact Z0 | apply Z1)))));exact Z3) ?_
 · exact Nat.zero_le _
 rintro ⟨i,ga,gc⟩ hle_i
 try simp only [Ca,Na]
 have hfl:=prF_len (x.vars.take i)
 rw [List.length_take] at hfl
 refine qL (qC (.q 0 (.done)) Kr ?_)
 refine qD J J J J J (sK _ _ _ _) ?_
 refine qS (qQ (qL ?_))
 refine qF J (fun hlt=>?_) (fun hlt=>?_)
 ·
  obtain ⟨w,hw⟩:=cX (l:=x.vars) (i:=i) Om
  refine qH (qQ (qL (kV (qL (qC (.q 0 (.q 1 ((.l 2 [] ((.l 3 [] (.done))))))) Kr ?_)))))
  refine cK (sz:=10) (k:=i) (enc:=encD) (xs:=x.vars) J J J J J υ'45 ζ'90 hw (by first | rfl | omega) Om Tk ?_
  intro ib15 io15 ha15 hl15 hc15
  refine rS (j:=0) (k':=i) (us:=[_,_,_,_,_,_,_,_,_,_,_]) (enc:=encD) (off:=io15) J J J J Tryz.isAgg90 ζ'90 ha15 encD_len hw Tk (by first | rfl | exact (Ad _).symm | omega) (by rfl) J ?_
  refine cY J J J Tryz.zeroValue90 (zs:=[.int .i64 0,.int .i64 0,.int .i64 0,.int .i64 0,.int .i64 0,.int .i64 0,.bool false,.int .i64 0,.int .i64 0,.int .i64 0,.int .i64 0]) J ?_
  intro b5
  refine qV (kR (j:=0) J J J J ζ'90 (us:=[_,_,_,_,_,_,_,_,_,_,_]) J J J Tk Az (by first | decide | (simp;done) | omega) ?_)
  simp only [setL,List.set]
  refine qV (qS (qQ (qL (qC (.q 0 (.q 1 (.done))) Kr ?_))))
  refine qG (k:=6) J J J J υ'90 J ζ'4 J ?_
  refine qP (j:=6) J J J J α'4 Tk Az (by rfl) ?_
  refine qS (qW [3,5,11,12,13,18] (e':=[(3,_),(5,_),(11,_),(12,_),(13,_),(18,_)]) J ?_)
  refine qQ ?_
  refine c_cond J (fun hfg=>?_) (fun hfg=>?_)
  ·
   try simp only [Bool.and_eq_true,Bool.or_eq_true,Bool.not_eq_true',Bool.not_eq_false',Bool.and_eq_false_iff,Bool.or_eq_false_iff,decide_eq_true_eq,decide_eq_false_iff_not] at hfg
   refine qC (.q 0 (.q 1 (.q 2 ((.l 3 [] ((.l 4 [] (.q 5 (.done))))))))) Kr ?_
   refine qK J J J J (qG (k:=0) J J J J υ'90 J ζ'65 J ?_)
   refine kC J J J J α'65 ζ'65 Tk 0 (us:=[_,_,_]) Az J J ?_
   refine kJ J J J J (cW (us:=[_,_,_]) υ'62 ζ'65 J ω'65 J J J) ?_
   intro b22
   refine qV (cN (sz:=3) (enc:=enc3) (xs:=(prF (x.vars.take i))) J J J J J υ'62 τ'65 J J J (by decide) Tk Tk (by first | rfl | omega | (simp;done) | (simp;omega)) (ys:=[(w.1.1,w.1.2.1,w.1.2.2)]) (cJ cB) (by rfl) (by first | rfl | omega) (enc3_len) (enc3_one) Om (by show _*24≤_;omega) ?_)
   intro ao23 cp23
   refine qV (qR J J J J (qS (qW [3,11,12,13] (e':=[(3,_),(11,_),(12,_),(13,_)]) J ?_)))
   refine kG (qQ (qC (.q 0 (.q 1 (.done))) Kr ?_))
   refine qD J J J J J (cF _ (by exact kY Om Om)) ?_
   refine qK J J J J (qS (qQ ?_))
   have hnx:=prF_next hw
   rw [if_pos (by simpa using hfg)] at hnx
   rw [show prF (x.vars.take i)++[(w.1.1,w.1.2.1,w.1.2.2)]=prF (x.vars.take (i+1)) from hnx.symm]
   refine kF 3 J (v':=.slice ao23 (prF (x.vars.take (i+1))).length cp23) (by rw [hnx,List.length_append];rfl) ?_
   refine kF 3 J (v':=.slice ao23 ((prF (x.vars.take (i+1))).length) cp23) (by first | rfl | (congr 1;done) | (congr 1 <;> first | rfl | omega | (simp;done) | (simp;omega))) ?_
   refine kZ (x:=(i,ga,gc)) ((i+1,ao23,cp23)) ?_ ?_ ?_ ?_
   · try dsimp only
     omega
   · show x.vars.length - (i+1) < x.vars.length - i;omega
   · exact ⟨rfl,rfl,rfl,rfl,trivial⟩
   · (try simp only [Ca,Na]);exact Tf
  try simp only [Bool.and_eq_true,Bool.or_eq_true,Bool.not_eq_true',Bool.not_eq_false',Bool.and_eq_false_iff,Bool.or_eq_false_iff,decide_eq_true_eq,decide_eq_false_iff_not] at hfg
  refine qH (kG (qQ (qC (.q 0 (.q 1 (.done))) Kr ?_)))
  refine qD J J J J J (cF _ (by exact kY Om Om)) ?_
  refine qK J J J J (qS (qQ ?_))
  have hnx:=prF_next hw
  rw [if_neg (by simpa using hfg),List.append_nil] at hnx
  rw [← hnx]
  refine kF 3 J (v':=.slice ga ((prF (x.vars.take (i+1))).length) gc) (by first | rfl | (congr 1;done) | (congr 1 <;> first | rfl | omega | (simp;done) | (simp;omega))) ?_
  refine kZ (x:=(i,ga,gc)) ((i+1,ga,gc)) ?_ ?_ ?_ ?_
  · try dsimp only
    omega
  · show x.vars.length - (i+1) < x.vars.length - i;omega
  · exact ⟨rfl,rfl,rfl,rfl,trivial⟩
  · (try simp only [Ca,Na]);exact Tf
 refine cS (qY (qY (kK (qQ (qL (qC (.q 0 (.q 1 (.done))) Kr ?_))))))
 refine qK J J J J (qR J J J J (qS (qW [2] (e':=[(2,_)]) J ?_)))
 refine qQ (qJ ?_)
 obtain rfl:i=x.vars.length:=by omega
 rw [List.take_length]
 refine hs_fold (b:=b) x (pa:=pa) (pc:=pc) (po:=po) (poc:=poc) (vb:=vb) (va:=va) (vc:=vc) (mk:=mk) (K:=x.keys) Ts (by rfl) (by rfl) (by rfl) ?_
 refine cR J J ((ga,gc)) (by first | rfl | (first | rfl | (congr 1;done) | (congr 1 <;> first | rfl | omega | (simp;done) | (simp;omega)))) (by trivial) ?_
 exact Tf
end Go.Ab.Hi
set_option linter.unusedVariables false
set_option linter.unusedSimpArgs false
set_option maxRecDepth 100000
namespace Go.Ab.Hi
open Go Go.Proofs Go.Ab Go.Ab.Fe Go.Ab.Vc Go.Ab.Dj Go.Ab.So
/-- An access that was done: its event, its number, its clock. -/
abbrev KA:=T3 × Int × Int
/-- The place of the last e among the first so many; -1. -/
def lastI (A:List KA) (e:T3):Nat→Int
  | 0=>-1
  | n+1=>if (A[n]?).map (·.1)=some e then (n:Int) else lastI A e n
/-- The place of the last access to a variable. -/
def lastO (A:List KA) (o:Int):Nat→Int
  | 0=>-1
  | n+1=>if (A[n]?).map (·.1.2.2)=some o then (n:Int) else lastO A o n
def atI (A:List KA) (j:Int):Int:=if 0≤j then ((A[j.toNat]?).map (·.2.1)).getD 0 else -1
def clI (A:List KA) (j:Int):Int:=if 0≤j then ((A[j.toNat]?).map (·.2.2)).getD 0 else 0
theorem lastI_lo (A:List KA) (e:T3):∀ n,-1≤lastI A e n∧lastI A e n < n
  | 0=>by simp [lastI]
  | n+1=>by
    have:=lastI_lo A e n
    unfold lastI
    split <;> omega
theorem lastO_lo (A:List KA) (o:Int):∀ n,-1≤lastO A o n∧lastO A o n < n
  | 0=>by simp [lastO]
  | n+1=>by
    have:=lastO_lo A o n
    unfold lastO
    split <;> omega
theorem lastI_at {A:List KA} {e:T3}:∀ {n:Nat},0≤lastI A e n→(A[(lastI A e n).toNat]?).map (·.1)=some e
  | 0,h=>by simp [lastI] at h
  | n+1,h=>by
    unfold lastI at h ⊢
    split
    · rename_i q;rw [Int.toNat_natCast];exact q
    · rename_i q;rw [if_neg q] at h;exact lastI_at h
theorem lastO_at {A:List KA} {o:Int}:∀ {n:Nat},0≤lastO A o n→(A[(lastO A o n).toNat]?).map (·.1.2.2)=some o
  | 0,h=>by simp [lastO] at h
  | n+1,h=>by
    unfold lastO at h ⊢
    split
    · rename_i q;rw [Int.toNat_natCast];exact q
    · rename_i q;rw [if_neg q] at h;exact lastO_at h
theorem lastI_app {A B:List KA} {e:T3}:∀ {n:Nat},n≤A.length→lastI (A++B) e n=lastI A e n
  | 0,_=>rfl
  | n+1,h=>by
    unfold lastI
    rw [List.getElem?_append_left Om,lastI_app Om]
theorem lastO_app {A B:List KA} {o:Int}:∀ {n:Nat},n≤A.length→lastO (A++B) o n=lastO A o n
  | 0,_=>rfl
  | n+1,h=>by
    unfold lastO
    rw [List.getElem?_append_left Om,lastO_app Om]
theorem lastI_snoc (A:List KA) (w:KA) (e:T3):lastI (A++[w]) e (A++[w]).length=if w.1=e then (A.length:Int) else lastI A e A.length:=by
  rw [List.length_append,List.length_singleton]
  show (if _ then _ else _)=_
  rw [List.getElem?_append_right (Nat.le_refl _),Nat.sub_self,lastI_app (Nat.le_refl _)]
  by_cases h:w.1=e
  · rw [if_pos h,if_pos (by simp [h])]
  · rw [if_neg h,if_neg (by simpa using h)]
theorem lastO_snoc (A:List KA) (w:KA) (o:Int):lastO (A++[w]) o (A++[w]).length=if w.1.2.2=o then (A.length:Int) else lastO A o A.length:=by
  rw [List.length_append,List.length_singleton]
  show (if _ then _ else _)=_
  rw [List.getElem?_append_right (Nat.le_refl _),Nat.sub_self,lastO_app (Nat.le_refl _)]
  by_cases h:w.1.2.2=o
  · rw [if_pos h,if_pos (by simp [h])]
  · rw [if_neg h,if_neg (by simpa using h)]
theorem atI_app {A B:List KA} {j:Int} (h:j < A.length):atI (A++B) j=atI A j∧clI (A++B) j=clI A j:=by
  unfold atI clI
  by_cases h0:0≤j
  · rw [if_pos h0,if_pos h0,if_pos h0,if_pos h0,List.getElem?_append_left Om];exact ⟨rfl,rfl⟩
  · rw [if_neg h0,if_neg h0,if_neg h0,if_neg h0];exact ⟨rfl,rfl⟩
theorem atI_end (A:List KA) (w:KA):atI (A++[w]) (A.length:Int)=w.2.1∧clI (A++[w]) (A.length:Int)=w.2.2:=by
  unfold atI clI
  rw [if_pos Om,if_pos Om,Int.toNat_natCast,List.getElem?_append_right (Nat.le_refl _),Nat.sub_self];exact ⟨rfl,rfl⟩
theorem at_some {A:List KA} {j:Nat} {w:KA} (h:A[j]?=some w):atI A (j:Int)=w.2.1∧clI A (j:Int)=w.2.2:=by
  unfold atI clI
  rw [if_pos Om,if_pos Om,Int.toNat_natCast,h];exact ⟨rfl,rfl⟩
/-- What is told of a variable before its first access. -/
def touI (A:List KA) (j:Int):T3 × Int:=if 0≤j then ((A[j.toNat]?).map fun w=>(w.1,w.2.1)).getD ((0,0,0),0) else ((0,0,0),0)
structure HRel (A:List KA) (x:HS):Prop where
  k:∀ o t,tchF x o t=(atI A (lastI A (1,t,o) A.length),atI A (lastI A (2,t,o) A.length),clI A (lastI A (1,t,o) A.length),clI A (lastI A (2,t,o) A.length))
  up:∀ (i j:Nat) a b,i < j→A[i]?=some a→A[j]?=some b→a.2.1 < b.2.1
  lo:∀ a∈A,0≤a.2.1∧a.2.1 < x.v.ck.n∧(a.1.1=1∨a.1.1=2)∧0≤a.1.2.1
  t:∀ (i:Nat) w,x.vars[i]?=some w→(w.2.2.2.1,w.2.2.2.2)=touI A (lastO A (i:Int) A.length)
  r:∀ w∈x.vars,(w.2.2.1=false→w.1=(0,0,0)∧w.2.1=(0,0,0))∧(w.2.2.1=true→0≤w.1.2.2∧0≤w.2.1.2.2)
  n:(A.length:Int)≤x.v.ck.n
  ob:∀ a∈A,0≤a.1.2.2∧a.1.2.2 < x.vars.length
theorem tch_updz {x:HS} {k t o:Int} (hv:vcanF x.v k t o) (hk:k=1∨k=2) (o' t':Int):tchF (heF x k t o) o' t'=if (o',t')=(o,t) then ntK x.v.ck.n k ((thF x.v t).getD t.toNat 0) (tchF x o t) else tchF x o' t':=by
  have hh:(heF x k t o).kept=upd x.kept (o,t) (some (ntK x.v.ck.n k ((thF x.v t).getD t.toNat 0) (tchF x o t))):=by
    rw [heF,if_pos hv,accF,if_pos hk];rfl
  unfold tchF
  rw [hh]
  by_cases h:(o',t')=(o,t)
  · rw [if_pos h,h,sL];rfl
  · rw [if_neg h,sD h]
theorem tch_noz {x:HS} {k t o:Int} (hk:¬ (k=1∨k=2)) (o' t':Int):tchF (heF x k t o) o' t'=tchF x o' t':=by
  unfold tchF heF
  split
  · rw [accF,if_neg hk]
  · rfl
theorem mem_agz {x:HS} (hx:SInv x) {k t o:Int} {z:Int}:z∈agF x k t o↔(k=1∨k=2)∧∃ u,u≠t∧((k=2∧z=(tchF x o u).1∧0≤(tchF x o u).1∧(thF x.v t).getD u.toNat 0 < (tchF x o u).2.2.1)∨(z=(tchF x o u).2.1∧0≤(tchF x o u).2.1∧(thF x.v t).getD u.toNat 0 < (tchF x o u).2.2.2)):=by
  unfold agF
  by_cases hk:k=1∨k=2
  · rw [if_pos hk,(isort_perm _).mem_iff,List.mem_flatMap]
    constructor
    · rintro ⟨q,hq,hz⟩
      by_cases h1:q.1≠o∨q.2=t
      · rw [agK_s h1] at hz;cases hz
      · have h2:q.1=o:=Classical.byContradiction fun h=>h1 (.inl h)
        have h3:q.2≠t:=fun h=>h1 (.inr h)
        obtain ⟨w,hw⟩:=Option.isSome_iff_exists.1 ((hx.ks q).1 hq)
        have hT:tchF x o q.2=w:=by unfold tchF;rw [← h2];show (x.kept q).getD _=w;rw [hw];rfl
        rw [agK_go (fun h=>h h2) h3 hw,List.mem_append] at hz
        refine ⟨hk,q.2,h3,?_⟩
        rw [hT]
        rcases hz with hz | hz
        · split at hz
          · rename_i hc;simp at hz;exact .inl ⟨hc.1,hz,hc.2.1,hc.2.2⟩
          · cases hz
        · split at hz
          · rename_i hc;simp at hz;exact .inr ⟨hz,hc.1,hc.2⟩
          · cases hz
    · rintro ⟨-,u,hu,hz⟩
      have hsome:(x.kept (o,u)).isSome=true:=by
        cases h:x.kept (o,u) with
        | some w=>rfl
        | none =>
          have hT:tchF x o u=(-1,-1,0,0):=by unfold tchF;rw [h];rfl
          rw [hT] at hz
          rcases hz with ⟨-,-,h1,-⟩ | ⟨-,h1,-⟩ <;> exact absurd h1 (by decide)
      obtain ⟨w,hw⟩:=Option.isSome_iff_exists.1 hsome
      have hT:tchF x o u=w:=by unfold tchF;rw [hw];rfl
      refine ⟨(o,u),(hx.ks _).2 hsome,?_⟩
      rw [agK_go (fun h=>h rfl) hu hw,List.mem_append]
      rw [hT] at hz
      rcases hz with ⟨h1,h2,h3,h4⟩ | ⟨h1,h2,h3⟩
      · left;rw [if_pos ⟨h1,h3,h4⟩];simp [h2]
      · right;rw [if_pos ⟨h2,h3⟩];simp [h1]
  · rw [if_neg hk]
    simp [hk]
theorem up_inj {A:List KA} (h:∀ (i j:Nat) a b,i < j→A[i]?=some a→A[j]?=some b→a.2.1 < b.2.1) {i j:Nat} {a b:KA} (ha:A[i]?=some a) (hb:A[j]?=some b) (e:a.2.1=b.2.1):i=j:=by
  rcases Nat.lt_trichotomy i j with q | q | q
  · have:=h i j a b q ha hb;omega
  · exact q
  · have:=h j i b a q hb ha;omega
/-- What is kept comes from an access. -/
theorem rel_at {A:List KA} {x:HS} (h:HRel A x) {e:T3} (he:0≤atI A (lastI A e A.length)):∃ (i:Nat) (w:KA),A[i]?=some w∧w.1=e∧w.2.1=atI A (lastI A e A.length)∧w.2.2=clI A (lastI A e A.length)∧lastI A e A.length=i:=by
  have h0:0≤lastI A e A.length:=by
    refine Classical.byContradiction fun q=>?_
    unfold atI at he;rw [if_neg q] at he;exact absurd he (by decide)
  have h1:=lastI_at h0
  obtain ⟨i,hi⟩:=Int.eq_ofNat_of_zero_le h0
  rw [hi,Int.toNat_natCast] at h1
  cases hw:A[i]? with
  | none=>rw [hw] at h1;cases h1
  | some w =>
    rw [hw] at h1
    have h2:=at_some hw
    rw [hi]
    exact ⟨i,w,hw,Option.some.inj h1,h2.1.symm,h2.2.symm,rfl⟩
/-- The document's list of what stands against an access. -/
def agC (A:List KA) (k t o:Int) (l:List Int) (i:Nat) (w:KA):Prop:=w.1.2.2=o∧w.1.2.1≠t∧¬ (k=1∧w.1.1=1)∧lastI A (w.1.1,w.1.2.1,o) A.length=(i:Int)∧l.getD w.1.2.1.toNat 0 < w.2.2
instance (A:List KA) (k t o:Int) (l:List Int) (i:Nat) (w:KA):Decidable (agC A k t o l i w):=by unfold agC;infer_instance
def agN (A:List KA) (k t o:Int) (l:List Int):Nat→List Int
  | 0=>[]
  | n+1=>agN A k t o l n++(match A[n]? with | some w=>if agC A k t o l n w then [w.2.1] else [] | none=>[])
theorem agN_len (A:List KA) (k t o:Int) (l:List Int):∀ n,(agN A k t o l n).length≤n
  | 0=>Nat.le_refl _
  | n+1=>by
    have:=agN_len A k t o l n
    unfold agN
    rw [List.length_append]
    split
    · split <;> simp <;> omega
    · simp;omega
theorem mem_agN {A:List KA} {k t o:Int} {l:List Int} {z:Int}:∀ {n:Nat},z∈agN A k t o l n↔∃ (i:Nat) (w:KA),i < n∧A[i]?=some w∧agC A k t o l i w∧z=w.2.1
  | 0=>by simp [agN]
  | n+1=>by
    unfold agN
    rw [List.mem_append,mem_agN]
    constructor
    · rintro (⟨i,w,h1,h2⟩ | h)
      · exact ⟨i,w,by omega,h2⟩
      · split at h
        · rename_i w hw
          split at h
          · rename_i hc;simp at h;exact ⟨n,w,by omega,hw,hc,h⟩
          · cases h
        · cases h
    · rintro ⟨i,w,h1,h2,h3,h4⟩
      by_cases hi:i=n
      · subst hi;right;rw [h2];simp only;rw [if_pos h3];simp [h4]
      · left;exact ⟨i,w,by omega,h2,h3,h4⟩
theorem agN_up {A:List KA} (hu:∀ (i j:Nat) a b,i < j→A[i]?=some a→A[j]?=some b→a.2.1 < b.2.1) (k t o:Int) (l:List Int):∀ n,(agN A k t o l n).Pairwise (· < ·)
  | 0=>.nil
  | n+1=>by
    unfold agN
    rw [List.pairwise_append]
    refine ⟨agN_up hu k t o l n,by split <;> (try split) <;> simp,fun a ha b hb=>?_⟩
    obtain ⟨i,w,h1,h2,-,rfl⟩:=mem_agN.1 ha
    split at hb
    · rename_i w2 hw2
      split at hb
      · simp at hb;subst hb;exact hu i n w w2 h1 h2 hw2
      · cases hb
    · cases hb
theorem ag_nodup {A:List KA} {x:HS} (hx:SInv x) (h:HRel A x) (k t o:Int):(agF x k t o).Nodup:=by
  unfold agF
  split
  · rw [(isort_perm _).nodup_iff]
    unfold List.Nodup
    rw [List.pairwise_flatMap]
    have hT:∀ (q:Int × Int) (w:Tch),x.kept q=some w→w=(atI A (lastI A (1,q.2,q.1) A.length),atI A (lastI A (2,q.2,q.1) A.length),clI A (lastI A (1,q.2,q.1) A.length),clI A (lastI A (2,q.2,q.1) A.length)):=fun q w hw=>by
      rw [← h.k q.1 q.2];unfold tchF;show w=(x.kept q).getD _;rw [hw];rfl
    have hel:∀ (q:Int × Int) z,z∈agK x.kept k t o (thF x.v t) q→∃ (i:Nat) (w:KA),A[i]?=some w∧w.2.1=z∧(w.1=(1,q.2,q.1)∨w.1=(2,q.2,q.1)):=fun q z hz=>by
      by_cases h1:q.1≠o∨q.2=t
      · rw [agK_s h1] at hz;cases hz
      · have h2:q.1=o:=Classical.byContradiction fun h=>h1 (.inl h)
        have h3:q.2≠t:=fun h=>h1 (.inr h)
        cases hw:x.kept q with
        | none=>unfold agK at hz;rw [if_neg h1,hw] at hz;cases hz
        | some w =>
          have hT':=hT q w hw
          rw [agK_go (fun h=>h h2) h3 hw,List.mem_append] at hz
          rcases hz with hz | hz
          · split at hz
            · rename_i hc;simp at hz;subst hz
              rw [hT'] at hc ⊢
              obtain ⟨i,u,a,b,c,-,-⟩:=rel_at h hc.2.1
              exact ⟨i,u,a,c,.inl b⟩
            · cases hz
          · split at hz
            · rename_i hc;simp at hz;subst hz
              rw [hT'] at hc ⊢
              obtain ⟨i,u,a,b,c,-,-⟩:=rel_at h hc.1
              exact ⟨i,u,a,c,.inr b⟩
            · cases hz
    refine ⟨fun q _=>?_,hx.nd.imp fun {q1 q2} hne z1 h1 z2 h2 e=>?_⟩
    · by_cases h1:q.1≠o∨q.2=t
      · rw [agK_s h1];exact .nil
      · have h2:q.1=o:=Classical.byContradiction fun h=>h1 (.inl h)
        have h3:q.2≠t:=fun h=>h1 (.inr h)
        cases hw:x.kept q with
        | none=>unfold agK;rw [if_neg h1,hw];exact .nil
        | some w =>
          have hT':=hT q w hw
          rw [agK_go (fun h=>h h2) h3 hw]
          split
          · split
            · rename_i hc1 hc2
              have hne:w.1≠w.2.1:=fun e=>by
                rw [hT'] at hc1 hc2 e
                obtain ⟨i,u,a,b,c,-,-⟩:=rel_at h hc1.2.1
                obtain ⟨i2,u2,a2,b2,c2,-,-⟩:=rel_at h hc2.1
                have:=up_inj h.up a a2 (c.trans (e.trans c2.symm))
                subst this
                rw [a] at a2;cases a2
                rw [b] at b2;simp at b2
              simp [hne]
            · simp
          · split <;> simp
    · subst e
      obtain ⟨i,w,a,b,c⟩:=hel q1 z1 h1
      obtain ⟨i2,w2,a2,b2,c2⟩:=hel q2 z1 h2
      have:=up_inj h.up a a2 (b.trans b2.symm)
      subst this
      rw [a] at a2;cases a2
      apply hne
      rcases c with c | c <;> rcases c2 with c2 | c2 <;> (rw [c] at c2;simp only [Prod.mk.injEq] at c2;first | exact Prod.ext c2.2.2 c2.2.1 | exact absurd c2.1 (by decide))
  · exact .nil
/-- The document tells the same. -/
theorem ag_same {A:List KA} {x:HS} (hx:SInv x) (h:HRel A x) {k t o:Int} (hk:k=1∨k=2):agN A k t o (thF x.v t) A.length=agF x k t o:=by
  have hs:(agF x k t o).Pairwise (·≤·):=by rw [agF,if_pos hk];exact isort_sorted _
  have hu:=agN_up h.up k t o (thF x.v t) A.length
  refine sorted_eq (hu.imp fun q=>by omega) hs ((List.perm_ext_iff_of_nodup (hu.imp fun q=>by omega) (ag_nodup hx h k t o)).2 fun z=>?_)
  rw [mem_agN,mem_agz hx]
  constructor
  · rintro ⟨i,w,h1,h2,⟨c1,c2,c3,c4,c5⟩,rfl⟩
    obtain ⟨l1,-,l3,-⟩:=h.lo w (List.mem_of_getElem? h2)
    obtain ⟨a1,a2⟩:=at_some h2
    refine ⟨hk,w.1.2.1,c2,?_⟩
    rw [h.k o w.1.2.1]
    rcases l3 with l3 | l3
    · rw [l3] at c4
      refine .inl ⟨?_,?_,?_,?_⟩
      · rcases hk with hk | hk
        · exact absurd ⟨hk,l3⟩ c3
        · exact hk
      · show w.2.1=atI A (lastI A (1,w.1.2.1,o) A.length);rw [c4,a1]
      · show 0≤atI A (lastI A (1,w.1.2.1,o) A.length);rw [c4,a1];exact l1
      · show _ < clI A (lastI A (1,w.1.2.1,o) A.length);rw [c4,a2];exact c5
    · rw [l3] at c4
      refine .inr ⟨?_,?_,?_⟩
      · show w.2.1=atI A (lastI A (2,w.1.2.1,o) A.length);rw [c4,a1]
      · show 0≤atI A (lastI A (2,w.1.2.1,o) A.length);rw [c4,a1];exact l1
      · show _ < clI A (lastI A (2,w.1.2.1,o) A.length);rw [c4,a2];exact c5
  · rintro ⟨-,u,hu,hz⟩
    rw [h.k o u] at hz
    rcases hz with ⟨k2,h1,h2,h3⟩ | ⟨h1,h2,h3⟩
    · obtain ⟨i,w,a,b,c,d,e⟩:=rel_at h h2
      exact ⟨i,w,(List.getElem?_eq_some_iff.1 a).1,a,⟨by rw [b],by rw [b];exact hu,fun q=>by omega,by rw [b];exact e,by rw [b,d];exact h3⟩,h1.trans c.symm⟩
    · obtain ⟨i,w,a,b,c,d,e⟩:=rel_at h h2
      exact ⟨i,w,(List.getElem?_eq_some_iff.1 a).1,a,⟨by rw [b],by rw [b];exact hu,fun q=>by have:=q.2;rw [b] at this;simp at this,by rw [b];exact e,by rw [b,d];exact h3⟩,h1.trans c.symm⟩
/-- The list of accesses behind an event. -/
def heA (x:HS) (A:List KA) (k t o:Int):List KA:=if vcanF x.v k t o∧(k=1∨k=2) then A++[((k,t,o),x.v.ck.n,(thF x.v t).getD t.toNat 0)] else A
theorem rel_new {th va vo lk:Int} {pl:List Int}:HRel [] (hNew th va vo lk pl):=by
  refine ⟨fun o t=>rfl,fun i j a b _ h=>by simp at h,fun a h=>by simp at h,fun i w h=>?_,fun w h=>?_,Int.le_refl _,fun a h=>by simp at h⟩
  · have:=List.mem_of_getElem? h
    simp only [hNew] at this
    obtain rfl:=(List.mem_replicate.1 this).2
    rfl
  · simp only [hNew] at h
    obtain rfl:=(List.mem_replicate.1 h).2
    exact ⟨fun _=>⟨rfl,rfl⟩,fun q=>by cases q⟩
theorem rel_he {A:List KA} {x:HS} (hx:SInv x) (h:HRel A x) (k t o:Int):HRel (heA x A k t o) (heF x k t o):=by
  by_cases hv:¬ vcanF x.v k t o
  · rw [heA,if_neg (fun q=>hv q.1),show heF x k t o=x from if_neg hv];exact h
  replace hv:=Classical.not_not.1 hv
  obtain ⟨n1,-⟩:=vnn hv.1
  have hn:(heF x k t o).v.ck.n=x.v.ck.n+1:=by rw [he_v hv];exact n1
  by_cases hk:¬ (k=1∨k=2)
  · rw [heA,if_neg (fun q=>hk q.2)]
    refine ⟨fun o' t'=>by rw [tch_noz hk];exact h.k o' t',h.up,fun a ha=>?_,?_,?_,by have:=h.n;omega,by rw [he_no hv hk];exact h.ob⟩
    · obtain ⟨a1,a2,a3⟩:=h.lo a ha
      exact ⟨a1,by omega,a3⟩
    · rw [he_no hv hk];exact h.t
    · rw [he_no hv hk];exact h.r
  replace hk:=Classical.not_not.1 hk
  rw [heA,if_pos ⟨hv,hk⟩]
  obtain ⟨h0,-⟩:=th_rng hx.v (can_th hv.1)
  obtain ⟨o0,o1⟩:=acc_o hv.1 hk
  have hn0:=hx.v.ck.n0
  refine ⟨fun o' t'=>?_,fun i j a b hij ha hb=>?_,fun a ha=>?_,fun i w hw=>?_,fun w hw=>?_,?_,?_⟩
  · rw [tch_updz hv hk,lastI_snoc,lastI_snoc,h.k o t,h.k o' t']
    obtain ⟨e1,e2⟩:=atI_end A ((k,t,o),x.v.ck.n,(thF x.v t).getD t.toNat 0)
    have f1:=atI_app (A:=A) (B:=[((k,t,o),x.v.ck.n,(thF x.v t).getD t.toNat 0)]) (lastI_lo A (1,t',o') A.length).2
    have f2:=atI_app (A:=A) (B:=[((k,t,o),x.v.ck.n,(thF x.v t).getD t.toNat 0)]) (lastI_lo A (2,t',o') A.length).2
    by_cases hq:(o',t')=(o,t)
    · obtain ⟨rfl,rfl⟩:=Prod.mk.inj hq
      rw [if_pos rfl]
      unfold ntK
      rcases hk with rfl | rfl
      · rw [if_pos rfl,if_pos rfl,if_neg (by simp),e1,e2,f2.1,f2.2]
      · rw [if_neg (by decide),if_neg (by simp),if_pos rfl,e1,e2,f1.1,f1.2]
    · rw [if_neg hq,if_neg (fun e=>hq (by simp only [Prod.mk.injEq] at e;rw [e.2.1,e.2.2])),if_neg (fun e=>hq (by simp only [Prod.mk.injEq] at e;rw [e.2.1,e.2.2])),f1.1,f1.2,f2.1,f2.2]
  · by_cases hj:j < A.length
    · rw [List.getElem?_append_left hj] at hb
      rw [List.getElem?_append_left Om] at ha
      exact h.up i j a b hij ha hb
    · have hj2:=(List.getElem?_eq_some_iff.1 hb).1
      rw [List.length_append,List.length_singleton] at hj2
      obtain rfl:j=A.length:=by omega
      rw [List.getElem?_append_left hij] at ha
      rw [List.getElem?_append_right (Nat.le_refl _),Nat.sub_self] at hb
      cases hb
      exact (h.lo a (List.mem_of_getElem? ha)).2.1
  · rcases List.mem_append.1 ha with ha | ha
    · obtain ⟨a1,a2,a3⟩:=h.lo a ha
      exact ⟨a1,by omega,a3⟩
    · simp only [List.mem_singleton] at ha
      subst ha
      exact ⟨hn0,by rw [hn];show x.v.ck.n < _;omega,hk,h0⟩
  · rw [he_acc hv hk] at hw
    change (x.vars.set o.toNat _)[i]?=some w at hw
    rw [lastO_snoc]
    show _=touI _ (if o=(i:Int) then _ else _)
    by_cases hi:o=(i:Int)
    · subst hi
      rw [Int.toNat_natCast] at hw
      have hl:i < x.vars.length:=by have:=(List.getElem?_eq_some_iff.1 hw).1;rwa [List.length_set] at this
      rw [List.getElem?_set_self hl] at hw
      cases hw
      rw [if_pos rfl]
      unfold touI
      rw [if_pos Om,Int.toNat_natCast,List.getElem?_append_right (Nat.le_refl _),Nat.sub_self]
      unfold ntV
      split <;> rfl
    · rw [List.getElem?_set_ne Om] at hw
      rw [if_neg hi,h.t i w hw]
      have h9:=(lastO_lo A (i:Int) A.length).2
      unfold touI
      split
      · rw [List.getElem?_append_left Om]
      · rfl
  · rw [he_acc hv hk] at hw
    change w∈x.vars.set o.toNat _ at hw
    rcases List.mem_or_eq_of_mem_set hw with hw | rfl
    · exact h.r w hw
    · obtain ⟨w0,hw0⟩:=cX (l:=x.vars) (i:=o.toNat) (by have:=hx.len;omega)
      rw [show x.vars.getD o.toNat t0=w0 from by rw [List.getD_eq_getElem?_getD,hw0];rfl]
      obtain ⟨r1,r2⟩:=h.r w0 (List.mem_of_getElem? hw0)
      unfold ntV
      split
      · exact ⟨r1,r2⟩
      · refine ⟨fun q=>(by cases q),fun _=>⟨?_,hn0⟩⟩
        show 0≤(if w0.2.2.1=true then w0.1 else _).2.2
        split
        · rename_i q;exact (r2 q).1
        · exact hn0
  · rw [List.length_append,List.length_singleton,hn]
    have:=h.n
    omega
  · rw [he_acc hv hk]
    show ∀ a:KA,a∈_→0≤a.1.2.2∧a.1.2.2 < ((x.vars.set o.toNat _).length:Int)
    rw [List.length_set]
    intro a ha
    rcases List.mem_append.1 ha with ha | ha
    · exact h.ob a ha
    · simp only [List.mem_singleton] at ha
      subst ha
      exact ⟨o0,by rw [hx.len];exact o1⟩
end Go.Ab.Hi
set_option linter.unusedVariables false
set_option linter.unusedSimpArgs false
set_option maxRecDepth 100000
namespace Go.Ab.Hi
open Go Go.Proofs Go.Ab Go.Ab.Fe Go.Ab.Vc Go.Ab.Dj Go.Ab.So
def wk0:HS:=hNew 2 1 0 0 []
def wek:List T3:=[(7,0,1),(2,0,0),(2,0,0),(1,1,0)]
def wk4:HS:=hAll wk0 wek
theorem okw:OkS 2 1 0 0 []:=okS_iff.2 (by decide)
theorem wk0_inv:SInv wk0:=new_sinv okw
theorem wk4_inv:SInv wk4:=hAll_inv wk0_inv _
theorem wek_can:canH (hAll wk0 (wek.take 0)) (7,0,1)∧canH (hAll wk0 (wek.take 1)) (2,0,0)∧canH (hAll wk0 (wek.take 2)) (2,0,0)∧canH (hAll wk0 (wek.take 3)) (1,1,0):=by decide +kernel
theorem wek_four:∀ i:Nat,i≤4→(i < 4→∀ e,wek[i]?=some e→¬ canH (hAll wk0 (wek.take i)) e)→i=4:=by
  intro i h1 h2
  obtain ⟨c0,c1,c2,c3⟩:=wek_can
  rcases (show i=0∨i=1∨i=2∨i=3∨i=4 by omega) with rfl | rfl | rfl | rfl | rfl
  · exact absurd c0 (h2 (by decide) _ J)
  · exact absurd c1 (h2 (by decide) _ J)
  · exact absurd c2 (h2 (by decide) _ J)
  · exact absurd c3 (h2 (by decide) _ J)
  · rfl
theorem wk4_ag:(if canF wk4.v.ck 2 1 0 then agF wk4 2 1 0 else [])=[2]:=by decide +kernel
theorem wk4_ac:(if canF wk4.v.ck 2 1 0 then (0:Int) else 6)=0:=by decide +kernel
theorem wk4_pr:prF wk4.vars=[(0,2,3)]:=by decide +kernel
theorem wk4_no:heE wk4 1 0 1=6:=by decide +kernel
theorem num_spec (e:Int):Spec Tryz.prog 7 [.int .i64 e] [] (fun (_:Unit)=>.int .i64 e) (fun _=>True) (fun _=>[]):=by
 refine kS (n:=4) Tryz.func7 J J J ?_
 intro Γ w0
 simp only [argE,Ca,Na,Zd,Nat.reduceAdd]
 refine qL (qC (.q 0 (.done)) Kr ?_)
 refine qR J J J J (qS (qQ (qL (qC (.q 0 (.q 1 (.done))) Kr ?_))))
 refine qK J J J J (qR J J J J (qS (qQ (qJ (cR J J (()) (by first | rfl | (first | rfl | (congr 1;done) | (congr 1 <;> first | rfl | omega | (simp;done) | (simp;omega)))) (by trivial) ?_)))))
 exact Tf
theorem ints_same (xs ys:List Int) (ao bo:Option Addr) (n m c d:Nat) (A:HProp) (hn:xs.length=n) (hr:RdS A ao (xs.flatMap encZ)) (hm:ys.length=m) (hr2:RdS A bo (ys.flatMap encZ)) (hb:n≤4000000000000):Spec Tryz.prog 14 [.slice ao n c,.slice bo m d] [A] (fun (_:Unit)=>.bool (decide (xs=ys))) (fun _=>True) (fun _=>[A]):=by
 refine kS (n:=26) Tryz.func14 J J J ?_
 intro Γ w0
 simp only [argE,Ca,Na,Zd,Nat.reduceAdd]
 refine qL (qC (.q 0 (.done)) Kr ?_)
 refine qR J J J J (qS (qQ (qL (qL (qC (.q 0 (.q 1 (.q 2 (.q 3 (.q 4 (.done)))))) Kr ?_)))))
 refine qK J J J J (sR J J J J υ'22 ?_)
 refine qK J J J J (sR J J J J υ'22 ?_)
 refine qD J J J J J (b_neq _ _ _ _) ?_
 refine qS (qW [0,1,10] (e':=[(0,_),(1,_),(10,_)]) J ?_)
 refine qQ ?_
 refine qF J (fun hne=>?_) (fun hne=>?_)
 ·
  refine qL (qC (.q 0 (.done)) Kr ?_)
  refine qR J J J J (qS (qQ (qJ (qN (cR J J (()) (by congr 1;symm;simp only [decide_eq_false_iff_not];intro e;rw [e] at hn;omega) (by trivial) ?_)))))
  exact Tf
 refine qH (qQ (qL (qL (qC (.q 0 (.done)) Kr ?_))))
 refine qR J J J J (qS (qQ (kV ?_)))
 have hnm:n=m:=by omega
 subst hnm
 refine sS (α:=Nat) (fun (i:Nat)=>i≤n∧(xs.take i=ys.take i)) (fun (i:Nat)=>[(5,.int .i64 ((i:Nat):Int))]) (fun (i:Nat)=>[]) (fun (i:Nat)=>n - i) [0,1] (er:=[(0,_),(1,_)]) J (0) ?_ (by exact ⟨rfl,trivial⟩) (by (try dsimp only);(try simp only [Ad,Zd]);(repeat ((with_reducible apply Z2);focus (first | (with_reducible (repeat (first | exact Z0 | apply Z1));done) | (repeat (first | exact Z0 | apply Z1)))));exact Z3) ?_
 · exact ⟨Nat.zero_le _,rfl⟩
 rintro i ⟨hle_i,ht⟩
 try simp only [Ca,Na]
 refine qL (qL (qC (.q 0 (.q 1 (.q 2 (.q 3 (.done))))) Kr ?_))
 refine qK J J J J (qK J J J J (sR J J J J υ'22 ?_))
 refine qD J J J J J (sK _ _ _ _) ?_
 refine qS (qQ ?_)
 refine qF J (fun hlt=>?_) (fun hlt=>?_)
 ·
  refine qH (qQ (qL (kV (qL (kM J (.q 0 (.q 1 (.q 2 (.q 3 (.q 4 (.q 5 (.q 6 (.q 7 (.q 8 (.done)))))))))) Kr ?_)))))
  refine qK J J J J (qK J J J J ?_)
  obtain ⟨x,hx⟩:=cX (l:=xs) (i:=i) (by first | omega | (simp;done) | (simp;omega))
  refine q_idxR (sz:=0) (k:=i) J J J J J υ'22 ζ'3 (hr) hx encZ_len (by first | rfl | omega) Om ?_
  intro ib19 io19 _ hd19
  refine q_load J J J J α'3 Tk (hd19 0 (.int .i64 x) J) ?_
  refine qK J J J J (qK J J J J ?_)
  obtain ⟨y,hy⟩:=cX (l:=ys) (i:=i) (by first | omega | (simp;done) | (simp;omega))
  refine q_idxR (sz:=0) (k:=i) J J J J J υ'22 ζ'3 (hr2) hy encZ_len (by first | rfl | omega) Om ?_
  intro ib23 io23 _ hd23
  refine q_load J J J J α'3 Tk (hd23 0 (.int .i64 y) J) ?_
  refine qD J J J J J (b_neq _ _ _ _) ?_
  refine qS (qW [0,1,5,25] (e':=[(0,_),(1,_),(5,_),(25,_)]) J ?_)
  refine qQ ?_
  refine qF J (fun hxy=>?_) (fun hxy=>?_)
  ·
   refine qL (qC (.q 0 (.done)) Kr ?_)
   refine qR J J J J (qS (qW [4] (e':=[(4,_)]) J ?_))
   refine qQ (qJ (kH (qN (qN (kH (qN (cR J J (()) (by congr 1;symm;simp only [decide_eq_false_iff_not];intro e;rw [e,hy] at hx;cases hx;exact hxy J) (by trivial) ?_)))))))
   exact Tf
  have hxy:x=y:=Classical.byContradiction hxy
  refine qH (kG (qQ (qC (.q 0 (.q 1 (.q 2 (.done)))) Kr ?_)))
  refine qK J J J J (qD J J J J J (cF _ (by exact kY Om Om)) ?_)
  refine qR J J J J (qS (qQ ?_))
  refine kZ (x:=i) (i+1) ?_ ?_ ?_ ?_
  · exact ⟨by omega,by rw [List.take_add_one,List.take_add_one,hx,hy,ht,hxy]⟩
  · show n - (i+1) < n - i;omega
  · exact ⟨rfl,rfl,rfl,trivial⟩
  · (try simp only [Ca,Na]);exact Tf
 refine cS (qY (qY (kK (qQ (qL (qC (.q 0 (.done)) Kr ?_))))))
 refine qR J J J J (qS (qW [4] (e':=[(4,_)]) J ?_))
 refine qQ (qJ (cR J J (()) (by congr 1;symm;simp only [decide_eq_true_eq];obtain rfl:i=n:=Om;rw [List.take_of_length_le Om,List.take_of_length_le Om] at ht;exact ht) (by trivial) ?_))
 exact Tf
theorem pairs_same (xs ys:List T3) (ao bo:Option Addr) (n m c d:Nat) (A:HProp) (hn:xs.length=n) (hr:RdS A ao (xs.flatMap enc3)) (hm:ys.length=m) (hr2:RdS A bo (ys.flatMap enc3)) (hb:n≤4000000000000):Spec Tryz.prog 12 [.slice ao n c,.slice bo m d] [A] (fun (_:Unit)=>.bool (decide (xs=ys))) (fun _=>True) (fun _=>[A]):=by
 refine kS (n:=26) Tryz.func12 J J J ?_
 intro Γ w0
 simp only [argE,Ca,Na,Zd,Nat.reduceAdd]
 refine qL (qC (.q 0 (.done)) Kr ?_)
 refine qR J J J J (qS (qQ (qL (qL (qC (.q 0 (.q 1 (.q 2 (.q 3 (.q 4 (.done)))))) Kr ?_)))))
 refine qK J J J J (sR J J J J υ'62 ?_)
 refine qK J J J J (sR J J J J υ'62 ?_)
 refine qD J J J J J (b_neq _ _ _ _) ?_
 refine qS (qW [0,1,10] (e':=[(0,_),(1,_),(10,_)]) J ?_)
 refine qQ ?_
 refine qF J (fun hne=>?_) (fun hne=>?_)
 ·
  refine qL (qC (.q 0 (.done)) Kr ?_)
  refine qR J J J J (qS (qQ (qJ (qN (cR J J (()) (by congr 1;symm;simp only [decide_eq_false_iff_not];intro e;rw [e] at hn;omega) (by trivial) ?_)))))
  exact Tf
 refine qH (qQ (qL (qL (qC (.q 0 (.done)) Kr ?_))))
 refine qR J J J J (qS (qQ (kV ?_)))
 have hnm:n=m:=by omega
 subst hnm
 refine sS (α:=Nat) (fun (i:Nat)=>i≤n∧(xs.take i=ys.take i)) (fun (i:Nat)=>[(5,.int .i64 ((i:Nat):Int))]) (fun (i:Nat)=>[]) (fun (i:Nat)=>n - i) [0,1] (er:=[(0,_),(1,_)]) J (0) ?_ (by exact ⟨rfl,trivial⟩) (by (try dsimp only);(try simp only [Ad,Zd]);(repeat ((with_reducible apply Z2);focus (first | (with_reducible (repeat (first | exact Z0 | apply Z1));done) | (repeat (first | exact Z0 | apply Z1)))));exact Z3) ?_
 · exact ⟨Nat.zero_le _,rfl⟩
 rintro i ⟨hle_i,ht⟩
 try simp only [Ca,Na]
 refine qL (qL (qC (.q 0 (.q 1 (.q 2 (.q 3 (.done))))) Kr ?_))
 refine qK J J J J (qK J J J J (sR J J J J υ'62 ?_))
 refine qD J J J J J (sK _ _ _ _) ?_
 refine qS (qQ ?_)
 refine qF J (fun hlt=>?_) (fun hlt=>?_)
 ·
  refine qH (qQ (qL (kV (qL (kM J (.q 0 (.q 1 (.q 2 (.q 3 (.q 4 (.q 5 (.q 6 (.q 7 (.q 8 (.done)))))))))) Kr ?_)))))
  refine qK J J J J (qK J J J J ?_)
  obtain ⟨x,hx⟩:=cX (l:=xs) (i:=i) (by first | omega | (simp;done) | (simp;omega))
  refine q_idxR (sz:=2) (k:=i) J J J J J υ'62 ζ'65 (hr) hx enc3_len (by first | rfl | omega) Om ?_
  intro ib19 io19 _ hd19
  refine q_loadN (vs:=[_,_,_]) J J J J α'65 ζ'65 Tk (hd19) J ?_
  refine qK J J J J (qK J J J J ?_)
  obtain ⟨y,hy⟩:=cX (l:=ys) (i:=i) (by first | omega | (simp;done) | (simp;omega))
  refine q_idxR (sz:=2) (k:=i) J J J J J υ'62 ζ'65 (hr2) hy enc3_len (by first | rfl | omega) Om ?_
  intro ib23 io23 _ hd23
  refine q_loadN (vs:=[_,_,_]) J J J J α'65 ζ'65 Tk (hd23) J ?_
  refine q_neS J J J J J Kr (eqc_struct υ'65 Kr (rL J α'3 J J (sF υ'3) (rL J α'3 J J (sF υ'3) (eqf_last J α'3 J J (sF υ'3))))) ?_
  refine kF 25 J (v':=.bool (decide (x≠y))) (by first | (congr 1;done) | (congr 1;rw [Bool.eq_iff_iff];simp [Prod.ext_iff,and_assoc])) ?_
  refine qS (qW [0,1,5,25] (e':=[(0,_),(1,_),(5,_),(25,_)]) J ?_)
  refine qQ ?_
  refine qF J (fun hxy=>?_) (fun hxy=>?_)
  ·
   refine qL (qC (.q 0 (.done)) Kr ?_)
   refine qR J J J J (qS (qW [4] (e':=[(4,_)]) J ?_))
   refine qQ (qJ (kH (qN (qN (kH (qN (cR J J (()) (by congr 1;symm;simp only [decide_eq_false_iff_not];intro e;rw [e,hy] at hx;cases hx;exact hxy J) (by trivial) ?_)))))))
   exact Tf
  have hxy:x=y:=Classical.byContradiction hxy
  refine qH (kG (qQ (qC (.q 0 (.q 1 (.q 2 (.done)))) Kr ?_)))
  refine qK J J J J (qD J J J J J (cF _ (by exact kY Om Om)) ?_)
  refine qR J J J J (qS (qQ ?_))
  refine kZ (x:=i) (i+1) ?_ ?_ ?_ ?_
  · exact ⟨by omega,by rw [List.take_add_one,List.take_add_one,hx,hy,ht,hxy]⟩
  · show n - (i+1) < n - i;omega
  · exact ⟨rfl,rfl,rfl,trivial⟩
  · (try simp only [Ca,Na]);exact Tf
 refine cS (qY (qY (kK (qQ (qL (qC (.q 0 (.done)) Kr ?_))))))
 refine qR J J J J (qS (qW [4] (e':=[(4,_)]) J ?_))
 refine qQ (qJ (cR J J (()) (by congr 1;symm;simp only [decide_eq_true_eq];obtain rfl:i=n:=Om;rw [List.take_of_length_le Om,List.take_of_length_le Om] at ht;exact ht) (by trivial) ?_))
 exact Tf
theorem works_spec:Spec Tryz.prog 4 [] [] (fun (_:Unit)=>.bool true) (fun _=>True) (fun _=>[]):=by
 refine kS (n:=64) Tryz.func4 J J J ?_
 intro Γ w0
 simp only [argE,Ca,Na,Zd,Nat.reduceAdd]
 refine qL (qC (.q 0 (.done)) Kr ?_)
 refine qR J J J J (qS (qQ (qL (qC (.q 0 ((.l 1 [] (.q 2 (.q 3 (.q 4 (.q 5 (.q 6 (.done))))))))) Kr ?_))))
 refine kB J J J J (vs:=[_,_,_,_,_]) (kQ υ'24 Tryz.zeroValue24 (ps:=[(0,1),(1,1),(2,1),(3,1),(4,1)]) ⟨rfl,ζ'3,rfl,ζ'3,rfl,ζ'3,rfl,ζ'3,rfl,ζ'22,trivial⟩ rfl) ?_
 refine cL (fun _ h=>Bun.fold (Γ:=[]) h) ?_
 have sp_1:=Hi.new_spec 2 1 0 0 ([]) none 0 0 (Bun []) (.inl rfl) (by rfl) Om okw
 refine qB J J J J J J Tryz.call5 (sp_1) Ts ?_
 rintro ⟨d,⟨dpa,dpc⟩,dpo,dpoc⟩ -
 try simp only [Ca,Na]
 refine qV ?_
 rw [show hNew 2 1 0 0 []=wk0 from rfl]
 refine qK J J J J (kX J J J J J (kX J J J J J (qR J J J J (qR J J J J (qS (qW [1,2] (e':=[(1,_),(2,_)]) J ?_))))))
 refine qQ (qL (qC (.q 0 (.q 1 (.q 2 (.q 3 (.q 4 ((.l 5 [] ((.l 6 [] (.q 7 (.q 8 (.q 9 (.q 10 (.q 11 (.done))))))))))))))) Kr ?_))
 refine qK J J J J (kB J J J J (vs:=[_,_,_]) (kQ υ'52 ω'52 (ps:=[(0,1),(1,1),(2,1)]) ⟨rfl,ζ'50,rfl,ζ'3,rfl,ζ'3,trivial⟩ rfl) ?_)
 refine kB J J J J (vs:=[_,_,_]) (kQ υ'52 ω'52 (ps:=[(0,1),(1,1),(2,1)]) ⟨rfl,ζ'50,rfl,ζ'3,rfl,ζ'3,trivial⟩ rfl) ?_
 refine kB J J J J (vs:=[_,_,_]) (kQ υ'52 ω'52 (ps:=[(0,1),(1,1),(2,1)]) ⟨rfl,ζ'50,rfl,ζ'3,rfl,ζ'3,trivial⟩ rfl) ?_
 refine kB J J J J (vs:=[_,_,_]) (kQ υ'52 ω'52 (ps:=[(0,1),(1,1),(2,1)]) ⟨rfl,ζ'50,rfl,ζ'3,rfl,ζ'3,trivial⟩ rfl) ?_
 refine kJ J J J J (vs:=[_,_,_,_,_,_,_,_,_,_,_,_]) (run_buildSl υ'53 ζ'52 ω'52 J J J J) ?_
 intro b18
 refine qV ?_
 have sp_2:=Hi.events_spec dpa dpc dpo dpoc d wk0 wk0_inv (by decide) ([]) rfl wek (some ⟨b18,0,none⟩) 4 4 (cells b18 0 [.int .i64 7,.int .i64 0,.int .i64 1,.int .i64 2,.int .i64 0,.int .i64 0,.int .i64 2,.int .i64 0,.int .i64 0,.int .i64 1,.int .i64 1,.int .i64 0]) (cJ cB) Ln Om
 refine qB J J J J J J Tryz.call10 (sp_2) Ts ?_
 rintro i ⟨hi1,hi2,hi3⟩
 try simp only [Ca,Na]
 refine qV ?_
 obtain rfl:=wek_four i hi1 hi3
 rw [show hAll wk0 (wek.take 4)=wk4 from rfl]
 refine qK J J J J (kX J J J J J (kX J J J J J (qR J J J J (qR J J J J (qS (qW [1,2,3,4] (e':=[(1,_),(2,_),(3,_),(4,_)]) J ?_))))))
 refine qQ (qL (qC (.q 0 (.q 1 ((.l 2 [] (.q 3 (.q 4 (.q 5 (.q 6 (.q 7 (.done)))))))))) Kr ?_))
 refine qK J J J J (kB J J J J (vs:=[_,_,_]) (kQ υ'52 ω'52 (ps:=[(0,1),(1,1),(2,1)]) ⟨rfl,ζ'50,rfl,ζ'3,rfl,ζ'3,trivial⟩ rfl) ?_)
 have sp_3:=Hi.againstq_spec dpa dpc dpo dpoc d wk4 wk4_inv (by decide +kernel) 2 1 0
 refine qB J J J J J J Tryz.call11 (sp_3) Ts ?_
 rintro ⟨ga,gc⟩ -
 try simp only [Ca,Na]
 refine qV ?_
 rw [wk4_ag,wk4_ac]
 refine qK J J J J (kX J J J J J (kX J J J J J (qR J J J J (qR J J J J (qS (qW [1,2,3,4,5,6] (e':=[(1,_),(2,_),(3,_),(4,_),(5,_),(6,_)]) J ?_))))))
 refine qQ (qL (qC (.q 0 ((.l 1 [] (.q 2 (.q 3 (.q 4 ((.l 5 [] (.q 6 (.q 7 (.q 8 (.q 9 ((.l 10 [] (.q 11 (.q 12 (.q 13 (.q 14 (.q 15 (.q 16 (.q 17 (.q 18 ((.l 19 [] (.q 20 ((.l 21 [] ((.l 22 [] (.q 23 (.q 24 (.q 25 ((.l 26 [] ((.l 27 [] (.q 28 (.q 29 (.q 30 (.q 31 ((.l 32 [] ((.l 33 [] (.q 34 (.q 35 (.q 36 (.done)))))))))))))))))))))))))))))))))))))))))))))))) Kr ?_))
 refine qK J J J J ?_
 have sp_4:=num_spec 0
 refine qB J J J J J J κ'7 (sp_4) Ts ?_
 rintro ⟨⟩ -
 try simp only [Ca,Na]
 refine qV (qD J J J J J (cZ _ _ _ _) ?_)
 refine kF 30 J (v':=.bool true) (by first | rfl | simp) ?_
 refine qK J J J J (qK J J J J ?_)
 have sp_5:=num_spec 0
 refine qB J J J J J J κ'7 (sp_5) Ts ?_
 rintro ⟨⟩ -
 try simp only [Ca,Na]
 refine qV (qD J J J J J (cZ _ _ _ _) ?_)
 refine kF 34 J (v':=.bool true) (by first | rfl | simp) ?_
 refine kL J J J J J (qK J J J J (qK J J J J ?_))
 have sp_6:=num_spec 0
 refine qB J J J J J J κ'7 (sp_6) Ts ?_
 rintro ⟨⟩ -
 try simp only [Ca,Na]
 refine qV (qD J J J J J (cZ _ _ _ _) ?_)
 refine kF 39 J (v':=.bool true) (by first | rfl | simp) ?_
 refine kL J J J J J (qK J J J J (qK J J J J (qD J J J J J (cZ _ _ _ _) ?_)))
 refine kF 43 J (v':=.bool true) (by first | rfl | simp) ?_
 refine kL J J J J J (qK J J J J (qK J J J J ?_))
 have sp_7:=Hi.pairs_spec dpa dpc dpo dpoc d wk4 wk4_inv
 refine qB J J J J J J Tryz.call13 (sp_7) Ts ?_
 rintro ⟨pa,pc⟩ -
 try simp only [Ca,Na]
 refine qV (kB J J J J (vs:=[_,_,_]) (kQ υ'65 ω'65 (ps:=[(0,1),(1,1),(2,1)]) ⟨rfl,ζ'3,rfl,ζ'3,rfl,ζ'3,trivial⟩ rfl) ?_)
 refine kJ J J J J (cW (us:=[_,_,_]) υ'62 ζ'65 J ω'65 J J J) ?_
 intro b49
 refine qV ?_
 have hprl:(prF wk4.vars).length=1:=by rw [wk4_pr];rfl
 refine cP (A:=own 3 enc3 pa pc (prF wk4.vars)) Tk ?_
 refine own_fc fun f_8a f_8b f_8c=>?_
 refine cL (fun _ h=>Bun.fold ((by (repeat ((with_reducible apply Z2);focus (first | (with_reducible (repeat (first | exact Z0 | apply Z1));done) | (repeat (first | exact Z0 | apply Z1)))));exact Z3:Takes _ [own 3 enc3 pa pc (prF wk4.vars),cells b49 0 [.int .i64 0,.int .i64 2,.int .i64 3]] _) _ h)) ?_
 have sp_9:=pairs_same (prF wk4.vars) ([(0,2,3)]) pa (some ⟨b49,0,none⟩) ((prF wk4.vars).length) 1 pc 1 (Bun [own 3 enc3 pa pc (prF wk4.vars),cells b49 0 [.int .i64 0,.int .i64 2,.int .i64 3]]) (by rfl) (rds_bun (List.mem_cons_self) (rC enc3_len (fun h=>(f_8b h).1) f_8c)) (by rfl) (rds_bun (List.mem_cons_of_mem _ (List.mem_cons_self)) (cJ cB)) Om
 refine qB J J J J J J Tryz.call12 (sp_9) Ts ?_
 rintro ⟨⟩ -
 try simp only [Ca,Na]
 refine cP (A:=Bun [own 3 enc3 pa pc (prF wk4.vars),cells b49 0 [.int .i64 0,.int .i64 2,.int .i64 3]]) Tk ?_
 refine s_bun ?_
 try simp only [Ca,Na]
 try simp only [Ca,Na]
 refine qV (kF 50 J (v':=.bool true) (by rw [decide_eq_true wk4_pr]) ?_)
 refine kL J J J J J (qK J J J J (qK J J J J (kJ J J J J (cW (us:=[_]) υ'22 ζ'3 J ω'3 J J J) ?_)))
 intro b54
 refine qV ?_
 have h2l:([2]:List Int).length=1:=rfl
 refine cP (A:=own 1 encZ ga gc ([2])) Tk ?_
 refine own_fc fun f_10a f_10b f_10c=>?_
 refine cL (fun _ h=>Bun.fold ((by (repeat ((with_reducible apply Z2);focus (first | (with_reducible (repeat (first | exact Z0 | apply Z1));done) | (repeat (first | exact Z0 | apply Z1)))));exact Z3:Takes _ [own 1 encZ ga gc ([2]),cells b54 0 [.int .i64 2]] _) _ h)) ?_
 have sp_11:=ints_same ([2]) ([2]) ga (some ⟨b54,0,none⟩) (([2]:List Int).length) 1 gc 1 (Bun [own 1 encZ ga gc ([2]),cells b54 0 [.int .i64 2]]) (by rfl) (rds_bun (List.mem_cons_self) (rC encZ_len (fun h=>(f_10b h).1) f_10c)) (by rfl) (rds_bun (List.mem_cons_of_mem _ (List.mem_cons_self)) (cJ cB)) Om
 refine qB J J J J J J Tryz.call14 (sp_11) Ts ?_
 rintro ⟨⟩ -
 try simp only [Ca,Na]
 refine cP (A:=Bun [own 1 encZ ga gc ([2]),cells b54 0 [.int .i64 2]]) Tk ?_
 refine s_bun ?_
 try simp only [Ca,Na]
 try simp only [Ca,Na]
 refine qV (kF 55 J (v':=.bool true) (by first | rfl | simp) ?_)
 refine kL J J J J J (qK J J J J (qK J J J J (kB J J J J (vs:=[_,_,_]) (kQ υ'52 ω'52 (ps:=[(0,1),(1,1),(2,1)]) ⟨rfl,ζ'50,rfl,ζ'3,rfl,ζ'3,trivial⟩ rfl) ?_)))
 have sp_12:=Hi.event_spec dpa dpc dpo dpoc d wk4 wk4_inv (by decide +kernel) ([]) rfl 1 0 1
 refine qB J J J J J J κ'15 (sp_12) Ts ?_
 rintro ⟨⟩ -
 try simp only [Ca,Na]
 refine qV ?_
 rw [wk4_no]
 have sp_13:=num_spec 6
 refine qB J J J J J J κ'7 (sp_13) Ts ?_
 rintro ⟨⟩ -
 try simp only [Ca,Na]
 refine qV (qD J J J J J (cZ _ _ _ _) ?_)
 refine kF 62 J (v':=.bool true) (by first | rfl | simp) ?_
 refine kL J J J J J (qR J J J J (qS (qW [0] (e':=[(0,_)]) J ?_)))
 refine qQ (qJ (cR J J (()) (by first | rfl | (first | rfl | (congr 1;done) | (congr 1 <;> first | rfl | omega | (simp;done) | (simp;omega)))) (by trivial) ?_))
 exact Tf
end Go.Ab.Hi
set_option linter.unusedVariables false
set_option linter.unusedSimpArgs false
set_option maxRecDepth 100000
namespace Go.Ab.Rh
open Go Go.Proofs Go.Ab Go.Ab.Fe Go.Ab.Vc Go.Ab.Dj Go.Ab.Rv Go.Ab.Hi
def encKA (x:KA):List Value:=[.int .i64 x.1.1,.int .i64 x.1.2.1,.int .i64 x.1.2.2,.int .i64 x.2.1,.int .u64 x.2.2]
theorem encKA_len:∀ x,(encKA x).length=5:=fun _=>rfl
theorem encKA_one:∀ x,(encKA x).all Value.oneCell'=true:=fun _=>rfl
/-- A variable's first pair, its latest, as the document keeps them. -/
def fsF (w:Tld):T3:=if w.2.2.1=true then w.1 else (0,0,-1)
def rcF (w:Tld):T3:=if w.2.2.1=true then w.2.1 else (0,0,-1)
def rhR (ra:Option Addr) (rc b:Nat) (x:HS) (L:List KA):HProp:=fun h=>∃ vb sa sn sc Aa Ac Fa Fc Ga Gc,Sat [cells b 0 [.pointer (some ⟨vb,0,none⟩),.int .i64 x.v.ck.th,.int .i64 x.v.ck.va,.int .i64 x.v.ck.vo,.int .i64 x.v.ck.lk,.slice sa sn sc,.slice Aa L.length Ac,.slice Fa x.vars.length Fc,.slice Ga x.vars.length Gc],
  rvR ra rc vb x.v,own 5 encKA Aa Ac L,own 3 enc3 Fa Fc (x.vars.map fsF),own 3 enc3 Ga Gc (x.vars.map rcF)] h
section
variable {w0:World} {ds:List Deferred} {n:Nat} {e:Env} {Γ Γ':List HProp} {X:Act→World→Prop}
theorem rh_open {ra:Option Addr} {rc b:Nat} {x:HS} {L:List KA} (tk:Take Γ (rhR ra rc b x L) Γ') (k:∀ vb sa sn sc Aa Ac Fa Fc Ga Gc,Le (St w0 ds n e (cells b 0 [.pointer (some ⟨vb,0,none⟩),.int .i64 x.v.ck.th,.int .i64 x.v.ck.va,.int .i64 x.v.ck.vo,.int .i64 x.v.ck.lk,.slice sa sn sc,.slice Aa L.length Ac,.slice Fa x.vars.length Fc,.slice Ga x.vars.length Gc] ::
    rvR ra rc vb x.v::own 5 encKA Aa Ac L::own 3 enc3 Fa Fc (x.vars.map fsF)::own 3 enc3 Ga Gc (x.vars.map rcF)::Γ')) X):Le (St w0 ds n e Γ) X:=fun a w s=>by
  obtain ⟨h1,l1,⟨vb,sa,sn,sc,Aa,Ac,Fa,Fc,Ga,Gc,a1⟩,s1⟩:=tk _ s.heap
  exact k vb sa sn sc Aa Ac Fa Fc Ga Gc a w ⟨s.defers,s.size,s.env,Bun.unfold ⟨h1,l1,a1,s1⟩,s.amb⟩
theorem rh_fold {b:Nat} (x:HS) (L:List KA) {ra sa:Option Addr} {rc sn sc vb Ac Fc Gc n1 n2 n3:Nat} {Aa Fa Ga:Option Addr} {z1 z2 z3 z4:Int} {y:VS} {F G:List T3} (tk:Takes Γ [cells b 0 [.pointer (some ⟨vb,0,none⟩),.int .i64 z1,.int .i64 z2,.int .i64 z3,.int .i64 z4,.slice sa sn sc,.slice Aa n1 Ac,.slice Fa n2 Fc,.slice Ga n3 Gc],rvR ra rc vb y,own 5 encKA Aa Ac L,own 3 enc3 Fa Fc F,own 3 enc3 Ga Gc G] Γ')
    (hy:y=x.v) (h1:z1=x.v.ck.th) (h2:z2=x.v.ck.va) (h3:z3=x.v.ck.vo) (h4:z4=x.v.ck.lk) (h5:n1=L.length) (h6:n2=x.vars.length) (h7:n3=x.vars.length) (hF:F=x.vars.map fsF) (hG:G=x.vars.map rcF)
    (k:Le (St w0 ds n e (rhR ra rc b x L::Γ')) X):Le (St w0 ds n e Γ) X:=cL (fun h s=>by
  subst hy h1 h2 h3 h4 h5 h6 h7 hF hG
  obtain ⟨h1,l1,a1,s1⟩:=Bun.fold (tk h s)
  exact ⟨h1,l1,⟨vb,sa,sn,sc,Aa,Ac,Fa,Fc,Ga,Gc,a1⟩,s1⟩) k
end
theorem lastI_yes {L:List KA} {e:T3} {n:Nat} {w:KA} (h:L[n]?=some w) (he:w.1=e):lastI L e (n+1)=n:=if_pos (by rw [h,← he];rfl)
theorem lastI_no {L:List KA} {e:T3} {n:Nat} {w:KA} (h:L[n]?=some w) (he:¬ w.1=e):lastI L e (n+1)=lastI L e n:=if_neg (by rw [h];simpa using he)
theorem lastO_yes {L:List KA} {o:Int} {n:Nat} {w:KA} (h:L[n]?=some w) (he:w.1.2.2=o):lastO L o (n+1)=n:=if_pos (by rw [h,← he];rfl)
theorem lastO_no {L:List KA} {o:Int} {n:Nat} {w:KA} (h:L[n]?=some w) (he:¬ w.1.2.2=o):lastO L o (n+1)=lastO L o n:=if_neg (by rw [h];simpa using he)
theorem agN_next {L:List KA} {k t o:Int} {l:List Int} {n:Nat} {w:KA} (h:L[n]?=some w):agN L k t o l (n+1)=agN L k t o l n++(if agC L k t o l n w then [w.2.1] else []):=by
  show _++_=_
  rw [h]
theorem access_spec (k t o:Int):Spec Tryz.prog 35 [.agg #[.int .i64 k,.int .i64 t,.int .i64 o]] [] (fun (_:Unit)=>.bool (decide (k=1∨k=2))) (fun _=>True) (fun _=>[]):=by
 refine kS (n:=11) Tryz.func35 J J J ?_
 intro Γ w0
 simp only [argE,Ca,Na,Zd,Nat.reduceAdd]
 refine qL (qC ((.l 0 [] (.q 1 (.done)))) Kr ?_)
 refine sG J J J J (us:=[_,_,_]) J ?_
 intro b1
 refine qV (qR J J J J (qS (qQ (qL (qC (.q 0 (.q 1 (.q 2 (.q 3 (.q 4 (.q 5 (.q 6 (.q 7 (.q 8 (.done)))))))))) Kr ?_)))))
 refine qG (k:=0) J J J J υ'52 J ζ'50 J ?_
 refine qP (j:=0) J J J J α'50 Tk Az (by rfl) ?_
 refine qD J J J J J (cZ _ _ _ _) ?_
 refine qK J J J J ?_
 refine cV 6 J (fun g_1=>?_) (fun g_1=>?_)
 ·
  refine qX J J J J (qX J J J J (qX J J J J (kL J J J J J (qR J J J J (qS (qW [2] (e':=[(2,_)]) J ?_))))))
  refine qQ (qJ (cR J J (()) (by congr 1;first | (rw [decide_eq_decide];omega) | (symm;rw [decide_eq_true_eq];omega)) (by trivial) ?_))
  exact Tf
 refine qG (k:=0) J J J J υ'52 J ζ'50 J ?_
 refine qP (j:=0) J J J J α'50 Tk Az (by rfl) ?_
 refine qD J J J J J (cZ _ _ _ _) ?_
 refine kD J J J J J (qR J J J J (qS (qW [2] (e':=[(2,_)]) J ?_)))
 refine qQ (qJ (cR J J (()) (by congr 1;first | (rw [decide_eq_decide];omega) | (symm;rw [decide_eq_true_eq];omega)) (by trivial) ?_))
 exact Tf
theorem last_spec (b Ac:Nat) (Aa:Option Addr) (c0 c1 c2 c3 c4 c5 c7 c8:Value) (L:List KA) (hLb:L.length≤4000000000000) (k t o:Int):Spec Tryz.prog 80 [.pointer (some ⟨b,0,none⟩),.int .i64 o,.int .i64 t,.int .i64 k] [cells b 0 [c0,c1,c2,c3,c4,c5,.slice Aa L.length Ac,c7,c8],own 5 encKA Aa Ac L] (fun (_:Unit)=>.int .i64 (lastI L ((k,t,o):T3) L.length)) (fun _=>True) (fun _=>[cells b 0 [c0,c1,c2,c3,c4,c5,.slice Aa L.length Ac,c7,c8],own 5 encKA Aa Ac L]):=by
 refine kS (n:=34) Tryz.func80 J J J ?_
 intro Γ w0
 simp only [argE,Ca,Na,Zd,Nat.reduceAdd]
 refine qL (qC (.q 0 (.done)) Kr ?_)
 refine qR J J J J (qS (qQ (qL (qL (qC (.q 0 (.q 1 (.q 2 (.q 3 (.q 4 (.q 5 (.q 6 (.done)))))))) Kr ?_)))))
 refine qK J J J J (qZ J J J J (qG (k:=6) J J J J υ'75 J ζ'73 J ?_))
 refine qP (j:=6) J J J J α'73 Tk Az (by rfl) ?_
 refine sR J J J J υ'73 ?_
 refine qD J J J J J (b_sub' _ (by exact kY Om Om)) ?_
 refine qR J J J J (qS (qW [0,1,2,3,9] (e':=[(0,_),(1,_),(2,_),(3,_),(9,_)]) J ?_))
 refine qQ (kV ?_)
 refine sS (α:=Nat) (fun (j:Nat)=>j≤L.length∧lastI L ((k,t,o):T3) L.length=lastI L ((k,t,o):T3) j) (fun (j:Nat)=>[(9,.int .i64 (((j:Nat):Int) - 1))]) (fun (j:Nat)=>[]) (fun (j:Nat)=>j) [0,1,2,3] (er:=[(0,_),(1,_),(2,_),(3,_)]) J (L.length) ?_ (by exact ⟨rfl,trivial⟩) (by (try dsimp only);(try simp only [Ad,Zd]);(repeat ((with_reducible apply Z2);focus (first | (with_reducible (repeat (first | exact Z0 | apply Z1));done) | (repeat (first | exact Z0 | apply Z1)))));exact Z3) ?_
 · exact ⟨Nat.le_refl _,rfl⟩
 rintro j ⟨hj,hl⟩
 try simp only [Ca,Na]
 refine qL (qL (qC (.q 0 (.q 1 (.done))) Kr ?_))
 refine qK J J J J (qD J J J J J (b_geq _ _ _ _) ?_)
 refine qS (qQ ?_)
 refine qF J (fun hlt=>?_) (fun hlt=>?_)
 ·
  obtain ⟨i,rfl⟩:∃ i,j=i+1:=⟨j - 1,by omega⟩
  obtain ⟨w,hw⟩:=cX (l:=L) (i:=i) Om
  refine qH (qQ (qL (kV (qL (qC (.q 0 (.q 1 (.q 2 (.q 3 (.q 4 (.q 5 (.q 6 (.q 7 (.q 8 (.q 9 (.q 10 (.q 11 (.q 12 (.done)))))))))))))) Kr ?_)))))
  refine qK J J J J (qZ J J J J (qG (k:=6) J J J J υ'75 J ζ'73 J ?_))
  refine qP (j:=6) J J J J α'73 Tk Az (by rfl) ?_
  refine qK J J J J (cK (sz:=4) (k:=i) (enc:=encKA) (xs:=L) J J J J J υ'73 ζ'112 hw (by first | rfl | omega) Om Tk ?_)
  intro ib25 io25 ha25 hl25 hc25
  refine qG (k:=0) J J J J υ'112 J ζ'52 J ?_
  refine rS (j:=0) (k':=i) (us:=[_,_,_]) (enc:=encKA) (off:=io25) J J J J α'52 ζ'52 ha25 encKA_len hw Tk (by first | rfl | exact (Ad _).symm | omega) (by rfl) J ?_
  refine qK J J J J (qK J J J J (qK J J J J (kB J J J J (vs:=[_,_,_]) (kQ υ'52 ω'52 (ps:=[(0,1),(1,1),(2,1)]) ⟨rfl,ζ'50,rfl,ζ'3,rfl,ζ'3,trivial⟩ rfl) ?_)))
  refine q_eqS J J J J J Kr (eqc_struct υ'52 Kr (rL J α'50 J J (sF υ'50) (rL J α'3 J J (sF υ'3) (eqf_last J α'3 J J (sF υ'3))))) ?_
  refine kF 32 J (v':=.bool (decide ((w.1.1,w.1.2.1,w.1.2.2)=(k,t,o)))) (by first | (congr 1;done) | (congr 1;rw [Bool.eq_iff_iff];simp [Prod.ext_iff,and_assoc])) ?_
  refine qS (qW [0,1,2,3,9,32] (e':=[(0,_),(1,_),(2,_),(3,_),(9,_),(32,_)]) J ?_)
  refine qQ ?_
  refine qF J (fun hne=>?_) (fun hne=>?_)
  ·
   refine qL (qC (.q 0 (.q 1 (.done))) Kr ?_)
   refine qK J J J J (qR J J J J (qS (qW [8] (e':=[(8,_)]) J ?_)))
   refine qQ (qJ (kH (qN (qN (kH (qN (cR J J (()) (by rw [hl,lastI_yes hw hne];congr 1;omega) (by trivial) ?_)))))))
   exact Tf
  refine qH (kG (qQ (qC (.q 0 (.q 1 (.q 2 (.done)))) Kr ?_)))
  refine qK J J J J (qD J J J J J (b_sub' _ (by exact kY Om Om)) ?_)
  refine qR J J J J (qS (qQ (kF 9 J (v':=.int .i64 (((i:Nat):Int) - 1)) (by first | rfl | (congr 1;done) | (congr 1 <;> first | rfl | omega | (simp;done) | (simp;omega))) ?_)))
  refine kZ (x:=(i+1)) (i) ?_ ?_ ?_ ?_
  · exact ⟨by omega,hl.trans (lastI_no hw hne)⟩
  · show i < i+1;omega
  · exact ⟨rfl,rfl,rfl,rfl,rfl,trivial⟩
  · (try simp only [Ca,Na]);exact Tf
 refine cS (qY (qY (kK (qQ (qL (qC (.q 0 (.done)) Kr ?_))))))
 refine qR J J J J (qS (qW [8] (e':=[(8,_)]) J ?_))
 refine qQ (qJ ?_)
 obtain rfl:j=0:=by omega
 refine cR J J (()) (by rw [hl];rfl) (by trivial) ?_
 exact Tf
theorem rag_acc (pa:Option Addr) (pc b:Nat) (x:HS) (hx:SInv x) (L:List KA) (hR:HRel L x) (hn:x.v.ck.n≤3000000000000) (k o:Int) (t:Nat) (hc:canF x.v.ck k ((t:Nat):Int) o) (hk:k=1∨k=2):Spec Tryz.prog 36 [.pointer (some ⟨b,0,none⟩),.agg #[.int .i64 k,.int .i64 ((t:Nat):Int),.int .i64 o]] [rhR pa pc b x L] (fun (r:Option Addr × Nat)=>.slice r.1 (agF x k ((t:Nat):Int) o).length r.2) (fun r=>True) (fun r=>[rhR pa pc b x L,own 1 encZ r.1 r.2 (agF x k ((t:Nat):Int) o)]):=by
 refine kS (n:=93) Tryz.func36 J J J ?_
 intro Γ w0
 simp only [argE,Ca,Na,Zd,Nat.reduceAdd]
 obtain ⟨l,hth⟩:=th_some hx.v (can_th hc)
 obtain ⟨h0_,h1_⟩:=th_rng hx.v (can_th hc)
 have hlc:=hx.v.thc _ _ hth
 have hRn:=hR.n
 have htf:=thF_eq hth
 refine qL (qC ((.l 0 [] (.q 1 (.done)))) Kr ?_)
 refine sG J J J J (us:=[_,_,_]) J ?_
 intro b3
 refine qV (qR J J J J (qS (qQ (qL (qC (.q 0 (.done)) Kr ?_)))))
 refine qR J J J J (qS (qQ (qL (qL (qC (.q 0 ((.l 1 [] (.q 2 (.done))))) Kr ?_)))))
 refine kC J J J J α'52 ζ'52 Tk 0 (us:=[_,_,_]) Az J J ?_
 have sp_1:=access_spec k ((t:Nat):Int) o
 refine qB J J J J J J Tryz.call35 (sp_1) Ts ?_
 rintro ⟨⟩ -
 try simp only [Ca,Na]
 refine qV (kF 10 J (v':=.bool true) (by rw [decide_eq_true hk]) ?_)
 refine rK J J J J ?_
 refine kF 11 J (v':=.bool false) J ?_
 refine qS (qW [0,3,5,11] (e':=[(0,_),(3,_),(5,_),(11,_)]) J ?_)
 refine qQ (kN J ?_)
 refine qH (qQ (qL (rh_open (ra:=pa) (rc:=pc) (b:=b) (x:=x) (L:=L) Tk fun vb sa sn sc Aa Ac Fa Fc Ga Gc=>?_)))
 refine rv_open (pa:=pa) (pc:=pc) (b:=vb) (x:=x.v) Tk fun cb Ta Tc La Lc Oa Oc Ra Rc VT VL VO VR YR hVT hVL hVO hVR hK=>?_
 have hTl:=hx.v.ck.tl
 obtain ⟨-,hts_,-⟩:=stF_nz (x:=x.v.ck) (t:=((t:Nat):Int)) ((hx.v.th _).1 (by rw [hth];rfl))
 rw [Int.toNat_natCast] at hts_
 have htt:(tabF x.v.ck.th.toNat x.v.th)[t]?=some (some l):=by rw [tab_get Om,hth]
 refine rQ (res:=optR) (V:=VT) (Y:=tabF x.v.ck.th.toNat x.v.th) (S:=[]) t Tk (by simp) htt fun ta hta=>?_
 refine optR_some (a:=ta) (t:=l) Tk fun tb htb=>?_
 subst htb
 refine kM J (.q 0 (.q 1 (.q 2 (.q 3 (.q 4 (.q 5 (.q 6 (.q 7 (.q 8 (.q 9 (.q 10 (.q 11 (.done))))))))))))) Kr ?_
 refine qK J J J J (qZ J J J J (qG (k:=0) J J J J υ'75 J ζ'70 J ?_))
 refine qP (j:=0) J J J J α'70 Tk Az (by rfl) ?_
 refine qZ J J J J (qG (k:=1) J J J J υ'104 J ζ'101 J ?_)
 refine qP (j:=1) J J J J α'101 Tk Az (by rfl) ?_
 refine qG (k:=1) J J J J υ'52 J ζ'3 J ?_
 refine qP (j:=1) J J J J α'3 Tk Az (by rfl) ?_
 refine cK (sz:=0) (k:=t) (enc:=encA) (xs:=VT) J J J J J υ'101 ζ'105 hta (by first | rfl | omega) Om Tk ?_
 intro ib22 io22 ha22 hl22 hc22
 refine cQ (v:=(.pointer (some ⟨tb,0,none⟩))) (j:=0) (k':=t) (enc:=encA) (off:=io22) J J J J α'105 ha22 encA_len hta Tk (by first | rfl | exact (Ad _).symm | omega) (by rfl) ?_
 refine qR J J J J (qS (qW [0,3,5,6] (e':=[(0,_),(3,_),(5,_),(6,_)]) J ?_))
 refine qQ (qL (qL (qC (.q 0 (.done)) Kr ?_)))
 refine qR J J J J (qS (qQ (kV (cL (fun _ h=>sY (sz:=1) (enc:=encZ) h) ?_))))
 refine sS (α:=Nat × Option Addr × Nat) (fun (x_:Nat × Option Addr × Nat)=>match x_ with | (i,la,lc)=>i≤L.length) (fun (x_:Nat × Option Addr × Nat)=>match x_ with | (i,la,lc)=>[(5,.slice la ((agN L k ((t:Nat):Int) o l i).length) lc),(7,.int .i64 ((i:Nat):Int))]) (fun (x_:Nat × Option Addr × Nat)=>match x_ with | (i,la,lc)=>[ckB tb l,own 1 encZ la lc (agN L k ((t:Nat):Int) o l i)]) (fun (x_:Nat × Option Addr × Nat)=>match x_ with | (i,la,lc)=>L.length - i) [0,3,6] (er:=[(0,_),(3,_),(6,_)]) J (0,none,0) ?_ (by exact ⟨rfl,rfl,trivial⟩) (by (try dsimp only);(repeat ((with_reducible apply Z2);focus (first | (with_reducible (repeat (first | exact Z0 | apply Z1));done) | (repeat (first | exact Z0 | apply Z1)))));exact Z3) ?_
 · exact Nat.zero_le _
 rintro ⟨i,la,lc⟩ hle_i
 try simp only [Ca,Na]
 have hgl:=agN_len L k ((t:Nat):Int) o l i
 refine qL (qL (qC (.q 0 (.q 1 (.q 2 (.q 3 (.q 4 (.q 5 (.q 6 (.done)))))))) Kr ?_))
 refine qK J J J J (qK J J J J (qZ J J J J (qG (k:=6) J J J J υ'75 J ζ'73 J ?_)))
 refine qP (j:=6) J J J J α'73 Tk Az (by rfl) ?_
 refine sR J J J J υ'73 ?_
 refine qD J J J J J (sK _ _ _ _) ?_
 refine qS (qW [0,3,5,6,7,30] (e':=[(0,_),(3,_),(5,_),(6,_),(7,_),(30,_)]) J ?_)
 refine qQ ?_
 refine qF J (fun hlt=>?_) (fun hlt=>?_)
 ·
  obtain ⟨w,hw⟩:=cX (l:=L) (i:=i) Om
  obtain ⟨hw0,hw1,hw2,hw3⟩:=hR.lo w (List.mem_of_getElem? hw)
  have hnx:=agN_next (k:=k) (t:=((t:Nat):Int)) (o:=o) (l:=l) hw
  refine qH (qQ (qL (kV (qL (qC (.q 0 (.q 1 (.q 2 (.q 3 (.q 4 (.q 5 (.q 6 ((.l 7 [] ((.l 8 [] (.done)))))))))))) Kr ?_)))))
  refine qK J J J J (qZ J J J J (qG (k:=6) J J J J υ'75 J ζ'73 J ?_))
  refine qP (j:=6) J J J J α'73 Tk Az (by rfl) ?_
  refine qK J J J J (cK (sz:=4) (k:=i) (enc:=encKA) (xs:=L) J J J J J υ'73 ζ'112 hw (by first | rfl | omega) Om Tk ?_)
  intro ib38 io38 ha38 hl38 hc38
  refine rS (j:=0) (k':=i) (us:=[_,_,_,_,_]) (enc:=encKA) (off:=io38) J J J J Tryz.isAgg112 ζ'112 ha38 encKA_len hw Tk (by first | rfl | exact (Ad _).symm | omega) (by rfl) J ?_
  refine cY J J J ω'112 (zs:=[.int .i64 0,.int .i64 0,.int .i64 0,.int .i64 0,.int .u64 0]) J ?_
  intro b8
  refine qV (kR (j:=0) J J J J ζ'112 (us:=[_,_,_,_,_]) J J J Tk Az (by first | decide | (simp;done) | omega) ?_)
  simp only [setL,List.set]
  refine qV (qS (qW [0,3,5,6,7,8] (e':=[(0,_),(3,_),(5,_),(6,_),(7,_),(8,_)]) J ?_))
  refine qQ (qL (qL (qC (.q 0 (.q 1 (.q 2 (.q 3 (.q 4 (.q 5 (.q 6 (.q 7 (.q 8 (.q 9 (.q 10 (.q 11 (.q 12 (.q 13 (.q 14 (.q 15 (.q 16 (.q 17 (.q 18 (.q 19 (.q 20 (.q 21 (.q 22 (.q 23 (.q 24 (.done)))))))))))))))))))))))))) Kr ?_)))
  refine qG (k:=0) J J J J υ'112 J ζ'52 J ?_
  refine qG (k:=2) J J J J υ'52 J ζ'3 J ?_
  refine qP (j:=2) J J J J α'3 Tk Az (by rfl) ?_
  refine qG (k:=2) J J J J υ'52 J ζ'3 J ?_
  refine qP (j:=2) J J J J α'3 Tk Az (by rfl) ?_
  refine qD J J J J J (b_neq _ _ _ _) ?_
  refine qK J J J J ?_
  refine cV 46 J (fun ho=>?_) (fun ho=>?_)
  ·
   refine qX J J J J (qX J J J J (qX J J J J (qX J J J J (qX J J J J (qX J J J J (kL J J J J J (qK J J J J (qX J J J J ?_))))))))
   refine qX J J J J (qX J J J J (qX J J J J (qX J J J J (qX J J J J (qX J J J J (qX J J J J (qX J J J J (kL J J J J J ?_))))))))
   refine qS (qW [0,3,5,6,7,8,47,48,49,50,51,52,55,56,57,58,59,60,61,62,63,64] (e':=[(0,_),(3,_),(5,_),(6,_),(7,_),(8,_),(47,_),(48,_),(49,_),(50,_),(51,_),(52,_),(55,_),(56,_),(57,_),(58,_),(59,_),(60,_),(61,_),(62,_),(63,_),(64,_)]) J ?_)
   refine qQ (cC J ?_)
   refine cS (qY (kK (qQ (qC (.q 0 (.q 1 (.q 2 (.done)))) Kr ?_))))
   refine qK J J J J (qD J J J J J (cF _ (by exact kY Om Om)) ?_)
   refine qR J J J J (qS (qW [0,3,5,6,7,47,48,49,50,51,52,55,56,57,58,59,60,61,62,63] (e':=[(0,_),(3,_),(5,_),(6,_),(7,_),(47,_),(48,_),(49,_),(50,_),(51,_),(52,_),(55,_),(56,_),(57,_),(58,_),(59,_),(60,_),(61,_),(62,_),(63,_)]) J ?_))
   refine qQ ?_
   rw [if_neg (by unfold agC;rintro ⟨q1,q2,q3,q4,q5⟩;first | omega | (simp_all;done) | (simp_all;omega)),List.append_nil] at hnx
   rw [← hnx]
   refine kF 5 J (v':=.slice la ((agN L k ((t:Nat):Int) o l (i+1)).length) lc) (by first | rfl | (congr 1;done) | (congr 1 <;> first | rfl | omega | (simp;done) | (simp;omega))) ?_
   refine kZ (x:=(i,la,lc)) ((i+1,la,lc)) ?_ ?_ ?_ ?_
   · try dsimp only
     omega
   · show L.length - (i+1) < L.length - i;omega
   · exact ⟨rfl,rfl,rfl,rfl,rfl,trivial⟩
   · (try simp only [Ca,Na]);exact Tf
  refine qG (k:=0) J J J J υ'112 J ζ'52 J ?_
  refine qG (k:=1) J J J J υ'52 J ζ'3 J ?_
  refine qP (j:=1) J J J J α'3 Tk Az (by rfl) ?_
  refine qG (k:=1) J J J J υ'52 J ζ'3 J ?_
  refine qP (j:=1) J J J J α'3 Tk Az (by rfl) ?_
  refine qD J J J J J (cZ _ _ _ _) ?_
  refine kD J J J J J (qK J J J J ?_)
  refine cV 54 J (fun ht=>?_) (fun ht=>?_)
  ·
   refine qX J J J J (qX J J J J (qX J J J J (qX J J J J (qX J J J J (qX J J J J (qX J J J J (qX J J J J (qX J J J J ?_))))))))
   refine kL J J J J J (qS (qW [0,3,5,6,7,8,47,48,49,50,51,52,55,56,57,58,59,60,61,62,63,64] (e':=[(0,_),(3,_),(5,_),(6,_),(7,_),(8,_),(47,_),(48,_),(49,_),(50,_),(51,_),(52,_),(55,_),(56,_),(57,_),(58,_),(59,_),(60,_),(61,_),(62,_),(63,_),(64,_)]) J ?_))
   refine qQ (cC J ?_)
   refine cS (qY (kK (qQ (qC (.q 0 (.q 1 (.q 2 (.done)))) Kr ?_))))
   refine qK J J J J (qD J J J J J (cF _ (by exact kY Om Om)) ?_)
   refine qR J J J J (qS (qW [0,3,5,6,7,47,48,49,50,51,52,55,56,57,58,59,60,61,62,63] (e':=[(0,_),(3,_),(5,_),(6,_),(7,_),(47,_),(48,_),(49,_),(50,_),(51,_),(52,_),(55,_),(56,_),(57,_),(58,_),(59,_),(60,_),(61,_),(62,_),(63,_)]) J ?_))
   refine qQ ?_
   rw [if_neg (by unfold agC;rintro ⟨q1,q2,q3,q4,q5⟩;first | omega | (simp_all;done) | (simp_all;omega)),List.append_nil] at hnx
   rw [← hnx]
   refine kF 5 J (v':=.slice la ((agN L k ((t:Nat):Int) o l (i+1)).length) lc) (by first | rfl | (congr 1;done) | (congr 1 <;> first | rfl | omega | (simp;done) | (simp;omega))) ?_
   refine kZ (x:=(i,la,lc)) ((i+1,la,lc)) ?_ ?_ ?_ ?_
   · try dsimp only
     omega
   · show L.length - (i+1) < L.length - i;omega
   · exact ⟨rfl,rfl,rfl,rfl,rfl,trivial⟩
   · (try simp only [Ca,Na]);exact Tf
  refine qG (k:=0) J J J J υ'52 J ζ'50 J ?_
  refine qP (j:=0) J J J J α'50 Tk Az (by rfl) ?_
  refine qD J J J J J (cZ _ _ _ _) ?_
  refine qK J J J J ?_
  refine cV 58 J (fun hk1=>?_) (fun hk1=>?_)
  ·
   refine qG (k:=0) J J J J υ'112 J ζ'52 J ?_
   refine qG (k:=0) J J J J υ'52 J ζ'50 J ?_
   refine qP (j:=0) J J J J α'50 Tk Az (by rfl) ?_
   refine qD J J J J J (cZ _ _ _ _) ?_
   refine kL J J J J J (kD J J J J J (qS (qW [0,3,5,6,7,8,47,48,49,50,51,52,55,56,57,58,59,60,61,62,63,64] (e':=[(0,_),(3,_),(5,_),(6,_),(7,_),(8,_),(47,_),(48,_),(49,_),(50,_),(51,_),(52,_),(55,_),(56,_),(57,_),(58,_),(59,_),(60,_),(61,_),(62,_),(63,_),(64,_)]) J ?_)))
   refine qQ ?_
   refine qF J (fun hk2=>?_) (fun hk2=>?_)
   ·
    refine cS (qY (kK (qQ (qC (.q 0 (.q 1 (.q 2 (.done)))) Kr ?_))))
    refine qK J J J J (qD J J J J J (cF _ (by exact kY Om Om)) ?_)
    refine qR J J J J (qS (qW [0,3,5,6,7,47,48,49,50,51,52,55,56,57,58,59,60,61,62,63] (e':=[(0,_),(3,_),(5,_),(6,_),(7,_),(47,_),(48,_),(49,_),(50,_),(51,_),(52,_),(55,_),(56,_),(57,_),(58,_),(59,_),(60,_),(61,_),(62,_),(63,_)]) J ?_))
    refine qQ ?_
    rw [if_neg (by unfold agC;rintro ⟨q1,q2,q3,q4,q5⟩;first | omega | (simp_all;done) | (simp_all;omega)),List.append_nil] at hnx
    rw [← hnx]
    refine kF 5 J (v':=.slice la ((agN L k ((t:Nat):Int) o l (i+1)).length) lc) (by first | rfl | (congr 1;done) | (congr 1 <;> first | rfl | omega | (simp;done) | (simp;omega))) ?_
    refine kZ (x:=(i,la,lc)) ((i+1,la,lc)) ?_ ?_ ?_ ?_
    · try dsimp only
      omega
    · show L.length - (i+1) < L.length - i;omega
    · exact ⟨rfl,rfl,rfl,rfl,rfl,trivial⟩
    · (try simp only [Ca,Na]);exact Tf
   refine qH (qQ (qL (kM J (.q 0 (.q 1 (.q 2 (.q 3 (.q 4 (.q 5 (.q 6 (.q 7 (.q 8 (.q 10 ((.l 9 [] (.q 11 (.q 12 (.q 13 (.q 14 (.q 15 (.q 16 (.q 17 (.q 18 ((.l 19 [14] (.q 20 (.q 21 (.done))))))))))))))))))))))))) Kr ?_)))
   refine qK J J J J (qG (k:=2) J J J J υ'52 J ζ'3 J ?_)
   refine qP (j:=2) J J J J α'3 Tk Az (by rfl) ?_
   refine qG (k:=0) J J J J υ'112 J ζ'52 J ?_
   refine qG (k:=1) J J J J υ'52 J ζ'3 J ?_
   refine qP (j:=1) J J J J α'3 Tk Az (by rfl) ?_
   refine qG (k:=0) J J J J υ'112 J ζ'52 J ?_
   refine qG (k:=0) J J J J υ'52 J ζ'50 J ?_
   refine qP (j:=0) J J J J α'50 Tk Az (by rfl) ?_
   refine qK J J J J ?_
   have sp_2:=last_spec b Ac Aa (.pointer (some ⟨vb,0,none⟩)) (.int .i64 x.v.ck.th) (.int .i64 x.v.ck.va) (.int .i64 x.v.ck.vo) (.int .i64 x.v.ck.lk) (.slice sa sn sc) (.slice Fa x.vars.length Fc) (.slice Ga x.vars.length Gc) L Om w.1.1 w.1.2.1 o
   refine qB J J J J J J κ'80 (sp_2) Ts ?_
   rintro ⟨⟩ -
   try simp only [Ca,Na]
   refine qV (qD J J J J J (cZ _ _ _ _) ?_)
   refine qK J J J J ?_
   refine cV 77 J (fun hl9=>?_) (fun hl9=>?_)
   ·
    refine qG (k:=4) J J J J υ'112 J ζ'97 J ?_
    refine qP (j:=4) J J J J α'97 Tk Az (by rfl) ?_
    refine qK J J J J (qG (k:=0) J J J J υ'112 J ζ'52 J ?_)
    refine qG (k:=1) J J J J υ'52 J ζ'3 J ?_
    refine qP (j:=1) J J J J α'3 Tk Az (by rfl) ?_
    refine kF 83 J (v':=.int .i64 ((w.1.2.1.toNat:Nat):Int)) (by rw [Int.toNat_of_nonneg hw3]) ?_
    have sp_3:=Rv.get_spec tb l w.1.2.1.toNat
    refine qB J J J J J J κ'76 (sp_3) Ts ?_
    rintro ⟨⟩ -
    try simp only [Ca,Na]
    refine qM (q:=4) J J J α'97 Tk Az (by rfl) ?_
    refine qV (qD J J J J J (b_gtr _ _ _ _) ?_)
    refine kL J J J J J (qS (qW [0,3,5,6,7,8,47,48,49,50,51,52,55,56,57,58,59,60,61,62,63,78,79,80,81,82,83,84,85,86] (e':=[(0,_),(3,_),(5,_),(6,_),(7,_),(8,_),(47,_),(48,_),(49,_),(50,_),(51,_),(52,_),(55,_),(56,_),(57,_),(58,_),(59,_),(60,_),(61,_),(62,_),(63,_),(78,_),(79,_),(80,_),(81,_),(82,_),(83,_),(84,_),(85,_),(86,_)]) J ?_))
    refine qQ ?_
    refine qF J (fun hcl=>?_) (fun hcl=>?_)
    ·
     refine qC (.q 0 (.q 1 (.q 2 ((.l 3 [] ((.l 4 [] (.q 5 (.done))))))))) Kr ?_
     refine qK J J J J (qG (k:=3) J J J J υ'112 J ζ'3 J ?_)
     refine qP (j:=3) J J J J α'3 Tk Az (by rfl) ?_
     refine kJ J J J J (cW (us:=[_]) υ'22 ζ'3 J ω'3 J J J) ?_
     intro b90
     refine qV (cN (sz:=1) (enc:=encZ) (xs:=(agN L k ((t:Nat):Int) o l i)) J J J J J υ'22 τ'3 J J J (by decide) Tk Tk (by first | rfl | omega | (simp;done) | (simp;omega)) (ys:=[w.2.1]) (cJ cB) (by rfl) (by first | rfl | omega) (encZ_len) (encZ_one) Om (by show _*8≤_;omega) ?_)
     intro ao91 cp91
     refine qV (qR J J J J (qS (qW [0,3,5,6,7,47,48,49,50,51,52,55,56,57,58,59,60,61,62,63,78,79,80,81,82,83,84,85] (e':=[(0,_),(3,_),(5,_),(6,_),(7,_),(47,_),(48,_),(49,_),(50,_),(51,_),(52,_),(55,_),(56,_),(57,_),(58,_),(59,_),(60,_),(61,_),(62,_),(63,_),(78,_),(79,_),(80,_),(81,_),(82,_),(83,_),(84,_),(85,_)]) J ?_)))
     refine kG (qQ (qC (.q 0 (.q 1 (.q 2 (.done)))) Kr ?_))
     refine qK J J J J (qD J J J J J (cF _ (by exact kY Om Om)) ?_)
     refine qR J J J J (qS (qQ ?_))
     rw [if_pos (by unfold agC;refine ⟨?_,?_,?_,?_,?_⟩ <;> first | assumption | omega | (simp only [Classical.not_not] at ho;exact ho) | (simp_all;done) | (simp_all;omega))] at hnx
     rw [← hnx]
     refine kF 5 J (v':=.slice ao91 (agN L k ((t:Nat):Int) o l (i+1)).length cp91) (by rw [hnx,List.length_append];rfl) ?_
     refine kF 5 J (v':=.slice ao91 ((agN L k ((t:Nat):Int) o l (i+1)).length) cp91) (by first | rfl | (congr 1;done) | (congr 1 <;> first | rfl | omega | (simp;done) | (simp;omega))) ?_
     refine kZ (x:=(i,la,lc)) ((i+1,ao91,cp91)) ?_ ?_ ?_ ?_
     · try dsimp only
       omega
     · show L.length - (i+1) < L.length - i;omega
     · exact ⟨rfl,rfl,rfl,rfl,rfl,trivial⟩
     · (try simp only [Ca,Na]);exact Tf
    refine qH (kG (qQ (qC (.q 0 (.q 1 (.q 2 (.done)))) Kr ?_)))
    refine qK J J J J (qD J J J J J (cF _ (by exact kY Om Om)) ?_)
    refine qR J J J J (qS (qW [0,3,5,6,7,47,48,49,50,51,52,55,56,57,58,59,60,61,62,63,78,79,80,81,82,83,84,85] (e':=[(0,_),(3,_),(5,_),(6,_),(7,_),(47,_),(48,_),(49,_),(50,_),(51,_),(52,_),(55,_),(56,_),(57,_),(58,_),(59,_),(60,_),(61,_),(62,_),(63,_),(78,_),(79,_),(80,_),(81,_),(82,_),(83,_),(84,_),(85,_)]) J ?_))
    refine qQ ?_
    rw [if_neg (by unfold agC;rintro ⟨q1,q2,q3,q4,q5⟩;first | omega | (simp_all;done) | (simp_all;omega)),List.append_nil] at hnx
    rw [← hnx]
    refine kF 5 J (v':=.slice la ((agN L k ((t:Nat):Int) o l (i+1)).length) lc) (by first | rfl | (congr 1;done) | (congr 1 <;> first | rfl | omega | (simp;done) | (simp;omega))) ?_
    refine kZ (x:=(i,la,lc)) ((i+1,la,lc)) ?_ ?_ ?_ ?_
    · try dsimp only
      omega
    · show L.length - (i+1) < L.length - i;omega
    · exact ⟨rfl,rfl,rfl,rfl,rfl,trivial⟩
    · (try simp only [Ca,Na]);exact Tf
   refine qX J J J J (qX J J J J (qX J J J J (qX J J J J (qX J J J J (qX J J J J (rW J J J J ?_))))))
   refine qX J J J J (kD J J J J J (qS (qW [0,3,5,6,7,8,47,48,49,50,51,52,55,56,57,58,59,60,61,62,63,78,79,80,81,82,83,84,85,86] (e':=[(0,_),(3,_),(5,_),(6,_),(7,_),(8,_),(47,_),(48,_),(49,_),(50,_),(51,_),(52,_),(55,_),(56,_),(57,_),(58,_),(59,_),(60,_),(61,_),(62,_),(63,_),(78,_),(79,_),(80,_),(81,_),(82,_),(83,_),(84,_),(85,_),(86,_)]) J ?_)))
   refine qQ (kN J ?_)
   refine qH (kG (qQ (qC (.q 0 (.q 1 (.q 2 (.done)))) Kr ?_)))
   refine qK J J J J (qD J J J J J (cF _ (by exact kY Om Om)) ?_)
   refine qR J J J J (qS (qW [0,3,5,6,7,47,48,49,50,51,52,55,56,57,58,59,60,61,62,63,78,79,80,81,82,83,84,85] (e':=[(0,_),(3,_),(5,_),(6,_),(7,_),(47,_),(48,_),(49,_),(50,_),(51,_),(52,_),(55,_),(56,_),(57,_),(58,_),(59,_),(60,_),(61,_),(62,_),(63,_),(78,_),(79,_),(80,_),(81,_),(82,_),(83,_),(84,_),(85,_)]) J ?_))
   refine qQ ?_
   rw [if_neg (by unfold agC;rintro ⟨q1,q2,q3,q4,q5⟩;first | omega | (simp_all;done) | (simp_all;omega)),List.append_nil] at hnx
   rw [← hnx]
   refine kF 5 J (v':=.slice la ((agN L k ((t:Nat):Int) o l (i+1)).length) lc) (by first | rfl | (congr 1;done) | (congr 1 <;> first | rfl | omega | (simp;done) | (simp;omega))) ?_
   refine kZ (x:=(i,la,lc)) ((i+1,la,lc)) ?_ ?_ ?_ ?_
   · try dsimp only
     omega
   · show L.length - (i+1) < L.length - i;omega
   · exact ⟨rfl,rfl,rfl,rfl,rfl,trivial⟩
   · (try simp only [Ca,Na]);exact Tf
  refine qX J J J J (qX J J J J (qX J J J J (qX J J J J (kD J J J J J (kD J J J J J (qS (qW [0,3,5,6,7,8,47,48,49,50,51,52,55,56,57,58,59,60,61,62,63,64] (e':=[(0,_),(3,_),(5,_),(6,_),(7,_),(8,_),(47,_),(48,_),(49,_),(50,_),(51,_),(52,_),(55,_),(56,_),(57,_),(58,_),(59,_),(60,_),(61,_),(62,_),(63,_),(64,_)]) J ?_)))))))
  refine qQ (kN J ?_)
  refine qH (qQ (qL (kM J (.q 0 (.q 1 (.q 2 (.q 3 (.q 4 (.q 5 (.q 6 (.q 7 (.q 8 (.q 10 ((.l 9 [] (.q 11 (.q 12 (.q 13 (.q 14 (.q 15 (.q 16 (.q 17 (.q 18 ((.l 19 [14] (.q 20 (.q 21 (.done))))))))))))))))))))))))) Kr ?_)))
  refine qK J J J J (qG (k:=2) J J J J υ'52 J ζ'3 J ?_)
  refine qP (j:=2) J J J J α'3 Tk Az (by rfl) ?_
  refine qG (k:=0) J J J J υ'112 J ζ'52 J ?_
  refine qG (k:=1) J J J J υ'52 J ζ'3 J ?_
  refine qP (j:=1) J J J J α'3 Tk Az (by rfl) ?_
  refine qG (k:=0) J J J J υ'112 J ζ'52 J ?_
  refine qG (k:=0) J J J J υ'52 J ζ'50 J ?_
  refine qP (j:=0) J J J J α'50 Tk Az (by rfl) ?_
  refine qK J J J J ?_
  have sp_4:=last_spec b Ac Aa (.pointer (some ⟨vb,0,none⟩)) (.int .i64 x.v.ck.th) (.int .i64 x.v.ck.va) (.int .i64 x.v.ck.vo) (.int .i64 x.v.ck.lk) (.slice sa sn sc) (.slice Fa x.vars.length Fc) (.slice Ga x.vars.length Gc) L Om w.1.1 w.1.2.1 o
  refine qB J J J J J J κ'80 (sp_4) Ts ?_
  rintro ⟨⟩ -
  try simp only [Ca,Na]
  refine qV (qD J J J J J (cZ _ _ _ _) ?_)
  refine qK J J J J ?_
  refine cV 77 J (fun hl9=>?_) (fun hl9=>?_)
  ·
   refine qG (k:=4) J J J J υ'112 J ζ'97 J ?_
   refine qP (j:=4) J J J J α'97 Tk Az (by rfl) ?_
   refine qK J J J J (qG (k:=0) J J J J υ'112 J ζ'52 J ?_)
   refine qG (k:=1) J J J J υ'52 J ζ'3 J ?_
   refine qP (j:=1) J J J J α'3 Tk Az (by rfl) ?_
   refine kF 83 J (v':=.int .i64 ((w.1.2.1.toNat:Nat):Int)) (by rw [Int.toNat_of_nonneg hw3]) ?_
   have sp_5:=Rv.get_spec tb l w.1.2.1.toNat
   refine qB J J J J J J κ'76 (sp_5) Ts ?_
   rintro ⟨⟩ -
   try simp only [Ca,Na]
   refine qM (q:=4) J J J α'97 Tk Az (by rfl) ?_
   refine qV (qD J J J J J (b_gtr _ _ _ _) ?_)
   refine kL J J J J J (qS (qW [0,3,5,6,7,8,47,48,49,50,51,52,55,56,57,58,59,60,61,62,63,78,79,80,81,82,83,84,85,86] (e':=[(0,_),(3,_),(5,_),(6,_),(7,_),(8,_),(47,_),(48,_),(49,_),(50,_),(51,_),(52,_),(55,_),(56,_),(57,_),(58,_),(59,_),(60,_),(61,_),(62,_),(63,_),(78,_),(79,_),(80,_),(81,_),(82,_),(83,_),(84,_),(85,_),(86,_)]) J ?_))
   refine qQ ?_
   refine qF J (fun hcl=>?_) (fun hcl=>?_)
   ·
    refine qC (.q 0 (.q 1 (.q 2 ((.l 3 [] ((.l 4 [] (.q 5 (.done))))))))) Kr ?_
    refine qK J J J J (qG (k:=3) J J J J υ'112 J ζ'3 J ?_)
    refine qP (j:=3) J J J J α'3 Tk Az (by rfl) ?_
    refine kJ J J J J (cW (us:=[_]) υ'22 ζ'3 J ω'3 J J J) ?_
    intro b90
    refine qV (cN (sz:=1) (enc:=encZ) (xs:=(agN L k ((t:Nat):Int) o l i)) J J J J J υ'22 τ'3 J J J (by decide) Tk Tk (by first | rfl | omega | (simp;done) | (simp;omega)) (ys:=[w.2.1]) (cJ cB) (by rfl) (by first | rfl | omega) (encZ_len) (encZ_one) Om (by show _*8≤_;omega) ?_)
    intro ao91 cp91
    refine qV (qR J J J J (qS (qW [0,3,5,6,7,47,48,49,50,51,52,55,56,57,58,59,60,61,62,63,78,79,80,81,82,83,84,85] (e':=[(0,_),(3,_),(5,_),(6,_),(7,_),(47,_),(48,_),(49,_),(50,_),(51,_),(52,_),(55,_),(56,_),(57,_),(58,_),(59,_),(60,_),(61,_),(62,_),(63,_),(78,_),(79,_),(80,_),(81,_),(82,_),(83,_),(84,_),(85,_)]) J ?_)))
    refine kG (qQ (qC (.q 0 (.q 1 (.q 2 (.done)))) Kr ?_))
    refine qK J J J J (qD J J J J J (cF _ (by exact kY Om Om)) ?_)
    refine qR J J J J (qS (qQ ?_))
    rw [if_pos (by unfold agC;refine ⟨?_,?_,?_,?_,?_⟩ <;> first | assumption | omega | (simp only [Classical.not_not] at ho;exact ho) | (simp_all;done) | (simp_all;omega))] at hnx
    rw [← hnx]
    refine kF 5 J (v':=.slice ao91 (agN L k ((t:Nat):Int) o l (i+1)).length cp91) (by rw [hnx,List.length_append];rfl) ?_
    refine kF 5 J (v':=.slice ao91 ((agN L k ((t:Nat):Int) o l (i+1)).length) cp91) (by first | rfl | (congr 1;done) | (congr 1 <;> first | rfl | omega | (simp;done) | (simp;omega))) ?_
    refine kZ (x:=(i,la,lc)) ((i+1,ao91,cp91)) ?_ ?_ ?_ ?_
    · try dsimp only
      omega
    · show L.length - (i+1) < L.length - i;omega
    · exact ⟨rfl,rfl,rfl,rfl,rfl,trivial⟩
    · (try simp only [Ca,Na]);exact Tf
   refine qH (kG (qQ (qC (.q 0 (.q 1 (.q 2 (.done)))) Kr ?_)))
   refine qK J J J J (qD J J J J J (cF _ (by exact kY Om Om)) ?_)
   refine qR J J J J (qS (qW [0,3,5,6,7,47,48,49,50,51,52,55,56,57,58,59,60,61,62,63,78,79,80,81,82,83,84,85] (e':=[(0,_),(3,_),(5,_),(6,_),(7,_),(47,_),(48,_),(49,_),(50,_),(51,_),(52,_),(55,_),(56,_),(57,_),(58,_),(59,_),(60,_),(61,_),(62,_),(63,_),(78,_),(79,_),(80,_),(81,_),(82,_),(83,_),(84,_),(85,_)]) J ?_))
   refine qQ ?_
   rw [if_neg (by unfold agC;rintro ⟨q1,q2,q3,q4,q5⟩;first | omega | (simp_all;done) | (simp_all;omega)),List.append_nil] at hnx
   rw [← hnx]
   refine kF 5 J (v':=.slice la ((agN L k ((t:Nat):Int) o l (i+1)).length) lc) (by first | rfl | (congr 1;done) | (congr 1 <;> first | rfl | omega | (simp;done) | (simp;omega))) ?_
   refine kZ (x:=(i,la,lc)) ((i+1,la,lc)) ?_ ?_ ?_ ?_
   · try dsimp only
     omega
   · show L.length - (i+1) < L.length - i;omega
   · exact ⟨rfl,rfl,rfl,rfl,rfl,trivial⟩
   · (try simp only [Ca,Na]);exact Tf
  refine qX J J J J (qX J J J J (qX J J J J (qX J J J J (qX J J J J (qX J J J J (rW J J J J ?_))))))
  refine qX J J J J (kD J J J J J (qS (qW [0,3,5,6,7,8,47,48,49,50,51,52,55,56,57,58,59,60,61,62,63,78,79,80,81,82,83,84,85,86] (e':=[(0,_),(3,_),(5,_),(6,_),(7,_),(8,_),(47,_),(48,_),(49,_),(50,_),(51,_),(52,_),(55,_),(56,_),(57,_),(58,_),(59,_),(60,_),(61,_),(62,_),(63,_),(78,_),(79,_),(80,_),(81,_),(82,_),(83,_),(84,_),(85,_),(86,_)]) J ?_)))
  refine qQ (kN J ?_)
  refine qH (kG (qQ (qC (.q 0 (.q 1 (.q 2 (.done)))) Kr ?_)))
  refine qK J J J J (qD J J J J J (cF _ (by exact kY Om Om)) ?_)
  refine qR J J J J (qS (qW [0,3,5,6,7,47,48,49,50,51,52,55,56,57,58,59,60,61,62,63,78,79,80,81,82,83,84,85] (e':=[(0,_),(3,_),(5,_),(6,_),(7,_),(47,_),(48,_),(49,_),(50,_),(51,_),(52,_),(55,_),(56,_),(57,_),(58,_),(59,_),(60,_),(61,_),(62,_),(63,_),(78,_),(79,_),(80,_),(81,_),(82,_),(83,_),(84,_),(85,_)]) J ?_))
  refine qQ ?_
  rw [if_neg (by unfold agC;rintro ⟨q1,q2,q3,q4,q5⟩;first | omega | (simp_all;done) | (simp_all;omega)),List.append_nil] at hnx
  rw [← hnx]
  refine kF 5 J (v':=.slice la ((agN L k ((t:Nat):Int) o l (i+1)).length) lc) (by first | rfl | (congr 1;done) | (congr 1 <;> first | rfl | omega | (simp;done) | (simp;omega))) ?_
  refine kZ (x:=(i,la,lc)) ((i+1,la,lc)) ?_ ?_ ?_ ?_
  · try dsimp only
    omega
  · show L.length - (i+1) < L.length - i;omega
  · exact ⟨rfl,rfl,rfl,rfl,rfl,trivial⟩
  · (try simp only [Ca,Na]);exact Tf
 refine cS (qY (qY (kK (qQ (qL (qC (.q 0 (.q 1 (.done))) Kr ?_))))))
 refine qK J J J J (qR J J J J (qS (qW [4] (e':=[(4,_)]) J ?_)))
 refine qQ (qJ ?_)
 obtain rfl:i=L.length:=by omega
 have h9:=ag_same hx hR hk (t:=((t:Nat):Int)) (o:=o)
 rw [htf] at h9
 rw [h9]
 refine optR_someF (b:=tb) (t:=l) Tk ?_
 refine rX (res:=optR) (V:=VT) (Y:=tabF x.v.ck.th.toNat x.v.th) (S:=[]) t Ts (by simp) hta htt ?_
 refine rv_fold (b:=vb) x.v (pa:=pa) (pc:=pc) (cb:=cb) (Ta:=Ta) (Tc:=Tc) (La:=La) (Lc:=Lc) (Oa:=Oa) (Oc:=Oc) (Ra:=Ra) (Rc:=Rc) (VT:=VT) (VL:=VL) (VO:=VO) (VR:=VR) (YR:=YR) Ts (by first | rfl | simp) (by first | rfl | simp) (by first | rfl | simp) (by first | rfl | simp) J J J J hVT hVL hVO hVR hK ?_
 refine rh_fold (b:=b) x L (ra:=pa) (rc:=pc) (vb:=vb) (sa:=sa) (sn:=sn) (sc:=sc) (Aa:=Aa) (Ac:=Ac) (Fa:=Fa) (Fc:=Fc) (Ga:=Ga) (Gc:=Gc) Ts J J J J J (by first | rfl | simp) (by first | rfl | simp) (by first | rfl | simp) (by first | rfl | simp) (by first | rfl | simp) ?_
 refine cR J J ((la,lc)) (by first | rfl | (first | rfl | (congr 1;done) | (congr 1 <;> first | rfl | omega | (simp;done) | (simp;omega)))) (by trivial) ?_
 exact Tf
theorem rag_no (pa:Option Addr) (pc b:Nat) (x:HS) (hx:SInv x) (L:List KA) (hR:HRel L x) (hn:x.v.ck.n≤3000000000000) (k t o:Int) (hk:¬ (k=1∨k=2)):Spec Tryz.prog 36 [.pointer (some ⟨b,0,none⟩),.agg #[.int .i64 k,.int .i64 t,.int .i64 o]] [rhR pa pc b x L] (fun (r:Option Addr × Nat)=>.slice r.1 (agF x k t o).length r.2) (fun r=>True) (fun r=>[rhR pa pc b x L,own 1 encZ r.1 r.2 (agF x k t o)]):=by
 refine kS (n:=93) Tryz.func36 J J J ?_
 intro Γ w0
 simp only [argE,Ca,Na,Zd,Nat.reduceAdd]
 refine qL (qC ((.l 0 [] (.q 1 (.done)))) Kr ?_)
 refine sG J J J J (us:=[_,_,_]) J ?_
 intro b3
 refine qV (qR J J J J (qS (qQ (qL (qC (.q 0 (.done)) Kr ?_)))))
 refine qR J J J J (qS (qQ (qL (qL (qC (.q 0 ((.l 1 [] (.q 2 (.done))))) Kr ?_)))))
 refine kC J J J J α'52 ζ'52 Tk 0 (us:=[_,_,_]) Az J J ?_
 have sp_1:=access_spec k t o
 refine qB J J J J J J Tryz.call35 (sp_1) Ts ?_
 rintro ⟨⟩ -
 try simp only [Ca,Na]
 refine qV (kF 10 J (v':=.bool false) (by rw [decide_eq_false hk]) ?_)
 refine rK J J J J ?_
 refine kF 11 J (v':=.bool true) J ?_
 refine qS (qW [0,3,5,11] (e':=[(0,_),(3,_),(5,_),(11,_)]) J ?_)
 refine qQ (cC J ?_)
 refine qL (qC (.q 0 (.q 1 (.done))) Kr ?_)
 refine qK J J J J (qR J J J J (qS (qW [4] (e':=[(4,_)]) J ?_)))
 refine qQ (qJ (qN (cL (fun _ h=>sY (sz:=1) (enc:=encZ) h) ?_)))
 rw [show agF x k t o=[] from if_neg hk]
 refine cR J J ((none,0)) (by rfl) (by trivial) ?_
 exact Tf
end Go.Ab.Rh
set_option linter.unusedVariables false
set_option linter.unusedSimpArgs false
set_option maxRecDepth 100000
namespace Go.Ab.Rh
open Go Go.Proofs Go.Ab Go.Ab.Fe Go.Ab.Vc Go.Ab.Dj Go.Ab.Rv Go.Ab.Hi
theorem nt_none {n k t o:Int} {l:List Int} {w:Tld} (h:¬ (0:Int) < ((l.length:Nat):Int)):fsF (ntV n k t o l w)=fsF w∧rcF (ntV n k t o l w)=rcF w:=by rw [ntV_no h];exact ⟨rfl,rfl⟩
theorem nt_some {n k t o z:Int} {l:List Int} {w:Tld} (h:l[l.length - 1]?=some z):fsF (ntV n k t o l w)=(if w.2.2.1=true then w.1 else (o,z,n))∧rcF (ntV n k t o l w)=(o,z,n):=by rw [ntV_at h];exact ⟨rfl,rfl⟩
theorem he_vars {x:HS} {k t o:Int} (hv:vcanF x.v k t o) (hk:k=1∨k=2) {w:Tld} (hw:x.vars[o.toNat]?=some w):(heF x k t o).vars=x.vars.set o.toNat (ntV x.v.ck.n k t o (agF x k t o) w):=by
  rw [he_acc hv hk]
  show x.vars.set o.toNat (ntV x.v.ck.n k t o (agF x k t o) (x.vars.getD o.toNat t0))=_
  rw [List.getD_eq_getElem?_getD,hw];rfl
theorem map_setF {f:Tld→T3} {V:List Tld} {i:Nat} {w w':Tld} (hw:V[i]?=some w) (h:f w'=f w):V.map f=(V.set i w').map f:=by
  rw [List.map_set,h,set_sameL (by rw [List.getElem?_map,hw];rfl)]
theorem he_vars_no {x:HS} {k t o:Int} (hv:vcanF x.v k t o) (hk:¬ (k=1∨k=2)):(heF x k t o).vars=x.vars:=by rw [he_no hv hk]
theorem heA_yes {x:HS} {L:List KA} {k t o:Int} {l:List Int} (hv:vcanF x.v k t o) (hk:k=1∨k=2) (hth:x.v.th t=some l):heA x L k t o=L++[((k,t,o),x.v.ck.n,l.getD t.toNat 0)]:=by rw [heA,if_pos ⟨hv,hk⟩,thF_eq hth]
theorem heA_no {x:HS} {L:List KA} {k t o:Int} (hk:¬ (k=1∨k=2)):heA x L k t o=L:=if_neg fun q=>hk q.2
theorem ck_same {x:VS} {k t o:Int} (hv:vcanF x k t o):(vnF x k t o).ck.th=x.ck.th∧(vnF x k t o).ck.va=x.ck.va∧(vnF x k t o).ck.vo=x.ck.vo∧(vnF x k t o).ck.lk=x.ck.lk:=by
  have h:=nxF_pa x.ck k t o
  rw [vn_ck]
  exact ⟨h.2.1,h.2.2.1,h.2.2.2.1,h.2.2.2.2⟩
/-- The accesses behind events. -/
def hAllL:HS→List KA→List T3→List KA
  | _,L,[]=>L
  | x,L,e::es=>hAllL (hEv x e) (heA x L e.1 e.2.1 e.2.2) es
theorem hAllL_app:∀ (es:List T3) (x:HS) (L:List KA) (e:T3),hAllL x L (es++[e])=heA (hAll x es) (hAllL x L es) e.1 e.2.1 e.2.2
  | [],x,L,e=>rfl
  | f::es,x,L,e=>hAllL_app es (hEv x f) _ e
theorem hAllL_next {x:HS} {L:List KA} {es:List T3} {i:Nat} {e:T3} (h:es[i]?=some e):hAllL x L (es.take (i+1))=heA (hAll x (es.take i)) (hAllL x L (es.take i)) e.1 e.2.1 e.2.2:=by
  rw [List.take_add_one,h,Option.toList_some,hAllL_app]
theorem rel_all:∀ (es:List T3) {x:HS} {L:List KA},SInv x→HRel L x→HRel (hAllL x L es) (hAll x es)
  | [],_,_,_,h=>h
  | e::es,_,_,hx,h=>rel_all es (he_inv hx _ _ _) (rel_he hx h _ _ _)
theorem rag_spec (pa:Option Addr) (pc b:Nat) (x:HS) (hx:SInv x) (L:List KA) (hR:HRel L x) (hn:x.v.ck.n≤3000000000000) (k t o:Int) (hc:(k=1∨k=2)→canF x.v.ck k t o):Spec Tryz.prog 36 [.pointer (some ⟨b,0,none⟩),.agg #[.int .i64 k,.int .i64 t,.int .i64 o]] [rhR pa pc b x L] (fun (r:Option Addr × Nat)=>.slice r.1 (agF x k t o).length r.2) (fun r=>True) (fun r=>[rhR pa pc b x L,own 1 encZ r.1 r.2 (agF x k t o)]):=by
  by_cases hk:k=1∨k=2
  · obtain ⟨h0,-⟩:=th_rng hx.v (can_th (hc hk))
    obtain ⟨i,rfl⟩:=Int.eq_ofNat_of_zero_le h0
    exact rag_acc pa pc b x hx L hR hn k o i (hc hk) hk
  · exact rag_no pa pc b x hx L hR hn k t o hk
theorem rev_no (pa:Option Addr) (pc b:Nat) (x:HS) (hx:SInv x) (L:List KA) (hR:HRel L x) (hn:x.v.ck.n≤3000000000000) (k t o:Int) (hv:¬ vcanF x.v k t o):Spec Tryz.prog 18 [.pointer (some ⟨b,0,none⟩),.agg #[.int .i64 k,.int .i64 t,.int .i64 o]] [rhR pa pc b x L] (fun (_:Unit)=>.int .i64 6) (fun _=>True) (fun _=>[rhR pa pc b x L]):=by
 refine kS (n:=94) Tryz.func18 J J J ?_
 intro Γ w0
 simp only [argE,Ca,Na,Zd,Nat.reduceAdd]
 refine qL (qC ((.l 0 [] (.q 1 (.done)))) Kr ?_)
 refine sG J J J J (us:=[_,_,_]) J ?_
 intro b3
 refine qV (qR J J J J (qS (qQ (qL (qL (qC (.q 0 (.q 1 (.done))) Kr ?_))))))
 refine qK J J J J (cM J J J J υ'33 ?_)
 refine kF 9 J (v':=.bool false) J ?_
 refine qS (qQ (kN J ?_))
 refine qH (qQ (qL (qL (rh_open (ra:=pa) (rc:=pc) (b:=b) (x:=x) (L:=L) Tk fun vb sa sn sc Aa Ac Fa Fc Ga Gc=>?_))))
 refine kM J (.q 0 (.q 1 (.q 2 (.q 3 (.q 4 ((.l 5 [] (.q 6 (.done))))))))) Kr ?_
 refine qK J J J J (qZ J J J J (qG (k:=0) J J J J υ'75 J ζ'70 J ?_))
 refine qP (j:=0) J J J J α'70 Tk Az (by rfl) ?_
 refine kC J J J J α'52 ζ'52 Tk 0 (us:=[_,_,_]) Az J J ?_
 have sp_1:=vcan_spec pa pc vb x.v hx.v k t o
 refine qB J J J J J J Tryz.call34 (sp_1) Ts ?_
 rintro ⟨⟩ -
 try simp only [Ca,Na]
 refine qV (rK J J J J ?_)
 refine qS (qW [0,3,16] (e':=[(0,_),(3,_),(16,_)]) J ?_)
 refine qQ ?_
 refine c_cond_np J (fun hg=>?_) (fun hg=>by exfalso;exact hv hg)
 refine qL (qC (.q 0 (.done)) Kr ?_)
 refine qR J J J J (qS (qQ (qJ (qN (rh_fold (b:=b) x L (ra:=pa) (rc:=pc) (vb:=vb) (sa:=sa) (sn:=sn) (sc:=sc) (Aa:=Aa) (Ac:=Ac) (Fa:=Fa) (Fc:=Fc) (Ga:=Ga) (Gc:=Gc) Ts J J J J J (by first | rfl | simp) (by first | rfl | simp) (by first | rfl | simp) (by first | rfl | simp) (by first | rfl | simp) ?_)))))
 refine cR J J (()) (by first | rfl | (first | rfl | (congr 1;done) | (congr 1 <;> first | rfl | omega | (simp;done) | (simp;omega)))) (by trivial) ?_
 exact Tf
theorem rev_can (pa:Option Addr) (pc b:Nat) (x:HS) (hx:SInv x) (L:List KA) (hR:HRel L x) (hn:x.v.ck.n≤3000000000000) (pl:List Int) (hpl:x.v.ck.pa=pl) (k:Int) (t o:Nat) (hv:vcanF x.v k ((t:Nat):Int) ((o:Nat):Int)):Spec Tryz.prog 18 [.pointer (some ⟨b,0,none⟩),.agg #[.int .i64 k,.int .i64 ((t:Nat):Int),.int .i64 ((o:Nat):Int)]] [rhR pa pc b x L,own 1 encZ pa pc pl] (fun (_:Unit)=>.int .i64 (heE x k ((t:Nat):Int) ((o:Nat):Int))) (fun _=>True) (fun _=>[rhR pa pc b (heF x k ((t:Nat):Int) ((o:Nat):Int)) (heA x L k ((t:Nat):Int) ((o:Nat):Int)),own 1 encZ pa pc pl]):=by
 refine kS (n:=94) Tryz.func18 J J J ?_
 intro Γ w0
 simp only [argE,Ca,Na,Zd,Nat.reduceAdd]
 refine qL (qC ((.l 0 [] (.q 1 (.done)))) Kr ?_)
 refine sG J J J J (us:=[_,_,_]) J ?_
 intro b3
 refine qV (qR J J J J (qS (qQ (qL (qL (qC (.q 0 (.q 1 (.done))) Kr ?_))))))
 refine qK J J J J (cM J J J J υ'33 ?_)
 refine kF 9 J (v':=.bool false) J ?_
 refine qS (qQ (kN J ?_))
 refine qH (qQ (qL (qL ?_)))
 have hc:=hv.1
 obtain ⟨l,hth⟩:=th_some hx.v (can_th hc)
 have hRn:=hR.n
 have hn0:=hx.v.ck.n0
 have hlen:=hx.len
 have hag:=agF_len x k ((t:Nat):Int) ((o:Nat):Int)
 have hkn:=hx.kn
 have hlc:=hx.v.thc _ _ hth
 have hlg:=g_rng hlc.rng (by decide) t
 refine rh_open (ra:=pa) (rc:=pc) (b:=b) (x:=x) (L:=L) Tk fun vb sa sn sc Aa Ac Fa Fc Ga Gc=>?_
 refine kM J (.q 0 (.q 1 (.q 2 (.q 3 (.q 4 ((.l 5 [] (.q 6 (.done))))))))) Kr ?_
 refine qK J J J J (qZ J J J J (qG (k:=0) J J J J υ'75 J ζ'70 J ?_))
 refine qP (j:=0) J J J J α'70 Tk Az (by rfl) ?_
 refine kC J J J J α'52 ζ'52 Tk 0 (us:=[_,_,_]) Az J J ?_
 have sp_1:=vcan_spec pa pc vb x.v hx.v k ((t:Nat):Int) ((o:Nat):Int)
 refine qB J J J J J J Tryz.call34 (sp_1) Ts ?_
 rintro ⟨⟩ -
 try simp only [Ca,Na]
 refine qV (rK J J J J ?_)
 refine qS (qW [0,3,16] (e':=[(0,_),(3,_),(16,_)]) J ?_)
 refine qQ ?_
 refine c_cond_np J (fun hg=>by exfalso;exact hg hv) (fun hg=>?_)
 refine qH (qQ (qL (qL (qC (.q 0 ((.l 1 [] (.done)))) Kr ?_))))
 refine kC J J J J α'52 ζ'52 Tk 0 (us:=[_,_,_]) Az J J ?_
 have sp_2:=access_spec k ((t:Nat):Int) ((o:Nat):Int)
 refine qB J J J J J J Tryz.call35 (sp_2) Ts ?_
 rintro ⟨⟩ -
 try simp only [Ca,Na]
 refine qV (qS (qQ ?_))
 refine qF J (fun hk=>?_) (fun hk=>?_)
 ·
  obtain ⟨o0,o1⟩:=acc_o hc hk
  obtain ⟨w,hw⟩:=cX (l:=x.vars) (i:=o) Om
  have hwf:(x.vars.map fsF)[o]?=some (fsF w):=by rw [List.getElem?_map,hw];rfl
  have hwg:(x.vars.map rcF)[o]?=some (rcF w):=by rw [List.getElem?_map,hw];rfl
  have hrw:=hR.r w (List.mem_of_getElem? hw)
  refine qL (rh_fold (b:=b) x L (ra:=pa) (rc:=pc) (vb:=vb) (sa:=sa) (sn:=sn) (sc:=sc) (Aa:=Aa) (Ac:=Ac) (Fa:=Fa) (Fc:=Fc) (Ga:=Ga) (Gc:=Gc) Ts J J J J J (by first | rfl | simp) (by first | rfl | simp) (by first | rfl | simp) (by first | rfl | simp) (by first | rfl | simp) ?_)
  refine qC (.q 0 (.q 1 ((.l 2 [] (.q 3 (.done)))))) Kr ?_
  refine qK J J J J (kC J J J J α'52 ζ'52 Tk 0 (us:=[_,_,_]) Az J J ?_)
  have sp_3:=rag_spec pa pc b x hx L hR hn k ((t:Nat):Int) ((o:Nat):Int) (fun _=>hc)
  refine qB J J J J J J Tryz.call36 (sp_3) Ts ?_
  rintro ⟨ga,gc⟩ -
  try simp only [Ca,Na]
  refine qV (qR J J J J (qS (rh_open (ra:=pa) (rc:=pc) (b:=b) (x:=x) (L:=L) Tk fun vb sa sn sc Aa Ac Fa Fc Ga Gc=>?_)))
  refine qW [0,3,5] (e':=[(0,_),(3,_),(5,_)]) J ?_
  refine qQ (qL (rv_open (pa:=pa) (pc:=pc) (b:=vb) (x:=x.v) Tk fun cb Ta Tc La Lc Oa Oc Ra Rc VT VL VO VR YR hVT hVL hVO hVR hK=>?_))
  refine qC (.q 0 (.q 1 (.q 2 (.q 3 (.q 4 (.q 5 (.q 6 ((.l 7 [] (.q 8 (.done))))))))))) Kr ?_
  refine qK J J J J (qZ J J J J (qG (k:=0) J J J J υ'75 J ζ'70 J ?_))
  refine qP (j:=0) J J J J α'70 Tk Az (by rfl) ?_
  refine qZ J J J J (qG (k:=0) J J J J υ'104 J ζ'98 J ?_)
  refine qP (j:=0) J J J J α'98 Tk Az (by rfl) ?_
  have sp_4:=Fe.rlen_spec pa pc cb x.v.ck
  refine qB J J J J J J Tryz.call37 (sp_4) Ts ?_
  rintro ⟨⟩ -
  try simp only [Ca,Na]
  refine qV (qR J J J J (qS (rv_fold (b:=vb) x.v (pa:=pa) (pc:=pc) (cb:=cb) (Ta:=Ta) (Tc:=Tc) (La:=La) (Lc:=Lc) (Oa:=Oa) (Oc:=Oc) (Ra:=Ra) (Rc:=Rc) (VT:=VT) (VL:=VL) (VO:=VO) (VR:=VR) (YR:=YR) Ts (by first | rfl | simp) (by first | rfl | simp) (by first | rfl | simp) (by first | rfl | simp) J J J J hVT hVL hVO hVR hK ?_)))
  refine qW [0,3,5,6] (e':=[(0,_),(3,_),(5,_),(6,_)]) J ?_
  refine qQ (qL (qL (qC (.q 0 (.q 1 (.q 2 (.done)))) Kr ?_)))
  refine qK J J J J (sR J J J J υ'22 ?_)
  refine qD J J J J J (b_gtr _ _ _ _) ?_
  refine qS (qQ ?_)
  refine qF J (fun hgp=>?_) (fun hgp=>?_)
  ·
   obtain ⟨z,hz⟩:=cX (l:=(agF x k ((t:Nat):Int) ((o:Nat):Int))) (i:=(agF x k ((t:Nat):Int) ((o:Nat):Int)).length - 1) Om
   obtain ⟨hn1,hn2⟩:=nt_some (n:=x.v.ck.n) (k:=k) (t:=((t:Nat):Int)) (o:=((o:Nat):Int)) (w:=w) hz
   refine qL (kM J (.q 0 (.q 1 (.q 2 (.q 3 (.q 4 (.q 5 (.q 6 (.q 7 (.q 8 (.q 9 ((.l 10 [1,4,7] ((.l 11 [] (.done))))))))))))))) Kr ?_)
   refine qG (k:=2) J J J J υ'52 J ζ'3 J ?_
   refine qP (j:=2) J J J J α'3 Tk Az (by rfl) ?_
   refine qK J J J J (qK J J J J (sR J J J J υ'22 ?_))
   refine qD J J J J J (b_sub' _ (by exact kY Om Om)) ?_
   refine cK (sz:=0) (k:=((agF x k ((t:Nat):Int) ((o:Nat):Int)).length - 1)) (enc:=encZ) (xs:=(agF x k ((t:Nat):Int) ((o:Nat):Int))) J J J J J υ'22 ζ'3 hz (by first | rfl | omega) Om Tk ?_
   intro ib39 io39 ha39 hl39 hc39
   refine cQ (v:=(.int .i64 z)) (j:=0) (k':=((agF x k ((t:Nat):Int) ((o:Nat):Int)).length - 1)) (enc:=encZ) (off:=io39) J J J J α'3 ha39 encZ_len hz Tk (by first | rfl | exact (Ad _).symm | omega) (by rfl) ?_
   refine qK J J J J (kB J J J J (vs:=[_,_,_]) (kQ υ'65 ω'65 (ps:=[(0,1),(1,1),(2,1)]) ⟨rfl,ζ'3,rfl,ζ'3,rfl,ζ'3,trivial⟩ rfl) ?_)
   refine cY J J J ω'65 (zs:=[.int .i64 0,.int .i64 0,.int .i64 0]) J ?_
   intro b7
   refine qM (q:=2) J J J α'3 Tk Az (by rfl) ?_
   refine ag_len J J J υ'22 ?_
   refine ag_load_O (v:=(.int .i64 z)) (j:=0) (k':=((agF x k ((t:Nat):Int) ((o:Nat):Int)).length - 1)) (enc:=encZ) (off:=io39) J J J α'3 ha39 encZ_len hz Tk (by first | rfl | exact (Ad _).symm | omega) (by rfl) ?_
   refine qV (kR (j:=0) J J J J ζ'65 (us:=[_,_,_]) J J J Tk Az (by first | decide | (simp;done) | omega) ?_)
   simp only [setL,List.set]
   refine qV (qS (qW [0,3,6,7] (e':=[(0,_),(3,_),(6,_),(7,_)]) J ?_))
   refine qQ (qL (kM J (.q 0 (.q 1 (.q 2 (.q 3 (.q 4 (.q 5 (.q 6 (.q 7 ((.l 8 [] (.done))))))))))) Kr ?_))
   refine qK J J J J (qZ J J J J (qG (k:=8) J J J J υ'75 J ζ'62 J ?_))
   refine qP (j:=8) J J J J α'62 Tk Az (by rfl) ?_
   refine qG (k:=2) J J J J υ'52 J ζ'3 J ?_
   refine qP (j:=2) J J J J α'3 Tk Az (by rfl) ?_
   refine kC J J J J α'65 ζ'65 Tk 0 (us:=[_,_,_]) Az J J ?_
   refine cK (sz:=2) (k:=o) (enc:=enc3) (xs:=(x.vars.map rcF)) J J J J J υ'62 ζ'65 hwg (by first | rfl | omega) Om Tk ?_
   intro ib50 io50 ha50 hl50 hc50
   refine sC (j:=0) (k:=o) (q:=(((o:Nat):Int),z,x.v.ck.n)) (enc:=enc3) (off:=io50) J J J J ζ'65 (us:=[_,_,_]) J J J ha50 enc3_len hwg Tk (by first | rfl | exact (Ad _).symm | omega) (by first | decide | exact Nat.le_of_ble_eq_true J) (by rfl) ?_
   refine qV (qS (qW [0,3,6,7] (e':=[(0,_),(3,_),(6,_),(7,_)]) J ?_))
   refine qQ (qL (kM J (.q 0 (.q 1 (.q 2 (.q 3 (.q 4 (.q 5 (.q 6 (.q 7 (.q 8 (.q 9 (.done))))))))))) Kr ?_))
   refine qK J J J J (qZ J J J J (qG (k:=7) J J J J υ'75 J ζ'62 J ?_))
   refine qP (j:=7) J J J J α'62 Tk Az (by rfl) ?_
   refine qG (k:=2) J J J J υ'52 J ζ'3 J ?_
   refine qP (j:=2) J J J J α'3 Tk Az (by rfl) ?_
   refine cK (sz:=2) (k:=o) (enc:=enc3) (xs:=(x.vars.map fsF)) J J J J J υ'62 ζ'65 hwf (by first | rfl | omega) Om Tk ?_
   intro ib57 io57 ha57 hl57 hc57
   refine qG (k:=2) J J J J υ'65 J ζ'3 J ?_
   refine cQ (v:=(.int .i64 ((fsF w).2.2))) (j:=2) (k':=o) (enc:=enc3) (off:=io57) J J J J α'3 ha57 enc3_len hwf Tk (by first | rfl | exact (Ad _).symm | omega) (by rfl) ?_
   refine qD J J J J J (sK _ _ _ _) ?_
   refine qS (qW [0,3,6,7,60] (e':=[(0,_),(3,_),(6,_),(7,_),(60,_)]) J ?_)
   refine qQ ?_
   refine qF J (fun hfs=>?_) (fun hfs=>?_)
   ·
    refine kM J (.q 0 (.q 1 (.q 2 (.q 3 (.q 4 (.q 5 (.q 6 (.q 7 ((.l 8 [] (.done))))))))))) Kr ?_
    refine qK J J J J (qZ J J J J (qG (k:=7) J J J J υ'75 J ζ'62 J ?_))
    refine qP (j:=7) J J J J α'62 Tk Az (by rfl) ?_
    refine qG (k:=2) J J J J υ'52 J ζ'3 J ?_
    refine qP (j:=2) J J J J α'3 Tk Az (by rfl) ?_
    refine kC J J J J α'65 ζ'65 Tk 0 (us:=[_,_,_]) Az J J ?_
    refine cK (sz:=2) (k:=o) (enc:=enc3) (xs:=(x.vars.map fsF)) J J J J J υ'62 ζ'65 hwf (by first | rfl | omega) Om Tk ?_
    intro ib68 io68 ha68 hl68 hc68
    refine sC (j:=0) (k:=o) (q:=(((o:Nat):Int),z,x.v.ck.n)) (enc:=enc3) (off:=io68) J J J J ζ'65 (us:=[_,_,_]) J J J ha68 enc3_len hwf Tk (by first | rfl | exact (Ad _).symm | omega) (by first | decide | exact Nat.le_of_ble_eq_true J) (by rfl) ?_
    refine qV (qS (qW [0,3,6] (e':=[(0,_),(3,_),(6,_)]) J ?_))
    refine qQ (kM J (.q 0 (.q 1 (.q 2 (.q 3 (.q 4 (.q 5 (.q 6 (.q 7 (.q 8 (.q 9 (.q 10 (.q 11 (.q 12 ((.l 13 [4,5] (.q 14 ((.l 15 [4] ((.l 16 [] (.q 17 (.q 18 ((.l 19 [] (.done))))))))))))))))))))))))) Kr ?_)
    refine qK J J J J (qK J J J J (qZ J J J J (qG (k:=6) J J J J υ'75 J ζ'73 J ?_)))
    refine qP (j:=6) J J J J α'73 Tk Az (by rfl) ?_
    refine kC J J J J α'52 ζ'52 Tk 0 (us:=[_,_,_]) Az J J ?_
    refine qK J J J J (qK J J J J (qZ J J J J (qG (k:=0) J J J J υ'75 J ζ'70 J ?_)))
    refine qP (j:=0) J J J J α'70 Tk Az (by rfl) ?_
    refine qG (k:=1) J J J J υ'52 J ζ'3 J ?_
    refine qP (j:=1) J J J J α'3 Tk Az (by rfl) ?_
    have sp_5:=clock_spec pa pc vb x.v hx.v t l hth
    refine qB J J J J J J κ'38 (sp_5) Ts ?_
    rintro ⟨⟩ -
    try simp only [Ca,Na]
    refine qM (q:=6) J J J α'73 Tk Az (by rfl) ?_
    refine kW J J (us:=[_,_,_]) J α'52 ζ'52 Tk 0 Az J J ?_
    refine qV (kB J J J J (vs:=[_,_,_,_,_]) (kQ υ'112 ω'112 (ps:=[(0,3),(3,1),(4,1)]) ⟨rfl,ζ'52,rfl,ζ'3,rfl,ζ'97,trivial⟩ rfl) ?_)
    refine kJ J J J J (cW (us:=[_,_,_,_,_]) υ'73 ζ'112 J ω'112 J J J) ?_
    intro b84
    refine qM (q:=6) J J J α'73 Tk Az (by rfl) ?_
    refine qV (cN (sz:=5) (enc:=encKA) (xs:=L) J J J J J υ'73 τ'112 J J J (by decide) Tk Tk (by first | rfl | omega | (simp;done) | (simp;omega)) (ys:=[(((k,((t:Nat):Int),((o:Nat):Int)),x.v.ck.n,l.getD t 0):KA)]) (cJ cB) (by rfl) (by first | rfl | omega) (encKA_len) (encKA_one) Om (by show _*40≤_;omega) ?_)
    intro ao85 cp85
    refine qV (qZ J J J J (qG (k:=6) J J J J υ'75 J ζ'73 J ?_))
    refine kR (j:=6) J J J J ζ'73 (us:=[_]) J J J Tk Az (by first | decide | (simp;done) | omega) ?_
    simp only [setL,List.set]
    refine qV (qS (qW [0,3] (e':=[(0,_),(3,_)]) J ?_))
    refine qQ (qL (kM J (.q 0 (.q 1 (.q 2 (.q 3 (.q 4 ((.l 5 [] (.done)))))))) Kr ?_))
    refine qK J J J J (qZ J J J J (qG (k:=0) J J J J υ'75 J ζ'70 J ?_))
    refine qP (j:=0) J J J J α'70 Tk Az (by rfl) ?_
    refine kC J J J J α'52 ζ'52 Tk 0 (us:=[_,_,_]) Az J J ?_
    have sp_6:=vnext_spec pa pc vb x.v hx.v Om pl hpl k ((t:Nat):Int) ((o:Nat):Int) hv
    refine qB J J J J J J κ'39 (sp_6) Ts ?_
    rintro ⟨⟩ -
    try simp only [Ca,Na]
    refine qV (qS (qW [] (e':=[]) J ?_))
    refine qQ (qL (qC (.q 0 (.done)) Kr ?_))
    refine qR J J J J (qS (qQ (qJ ?_)))
    obtain ⟨e1,e2,e3,e4⟩:=ck_same hv
    have hvv:(heF x k ((t:Nat):Int) ((o:Nat):Int)).v=vnF x.v k ((t:Nat):Int) ((o:Nat):Int):=he_v hv
    rw [show L++[(((k,((t:Nat):Int),((o:Nat):Int)),x.v.ck.n,l.getD t 0):KA)]=(heA x L k ((t:Nat):Int) ((o:Nat):Int)) from by rw [heA_yes hv hk hth,Int.toNat_natCast]]
    refine rh_fold (b:=b) (heF x k ((t:Nat):Int) ((o:Nat):Int)) (heA x L k ((t:Nat):Int) ((o:Nat):Int)) (ra:=pa) (rc:=pc) (vb:=vb) (sa:=sa) (sn:=sn) (sc:=sc) (Aa:=ao85) (Ac:=cp85) (Fa:=Fa) (Fc:=Fc) (Ga:=Ga) (Gc:=Gc) Ts hvv.symm (by rw [hvv,e1]) (by rw [hvv,e2]) (by rw [hvv,e3]) (by rw [hvv,e4]) (by rw [heA_yes hv hk hth,Int.toNat_natCast];simp) (by rw [he_vars hv hk (w:=w) (by rw [Int.toNat_natCast];exact hw)];simp) (by rw [he_vars hv hk (w:=w) (by rw [Int.toNat_natCast];exact hw)];simp) (by rw [he_vars hv hk (w:=w) (by rw [Int.toNat_natCast];exact hw),Int.toNat_natCast,List.map_set,hn1,if_neg (fun q=>by have h7:=(hrw.2 q).1;rw [fsF,if_pos q] at hfs;omega)]) (by rw [he_vars hv hk (w:=w) (by rw [Int.toNat_natCast];exact hw),Int.toNat_natCast,List.map_set,hn2]) ?_
    refine cR J J (()) (by rw [show heE x k ((t:Nat):Int) ((o:Nat):Int)=0 from if_pos hv]) (by trivial) ?_
    exact Tf
   refine qH (qQ (kM J (.q 0 (.q 1 (.q 2 (.q 3 (.q 4 (.q 5 (.q 6 (.q 7 (.q 8 (.q 9 (.q 10 (.q 11 (.q 12 ((.l 13 [4,5] (.q 14 ((.l 15 [4] ((.l 16 [] (.q 17 (.q 18 ((.l 19 [] (.done))))))))))))))))))))))))) Kr ?_))
   refine qK J J J J (qK J J J J (qZ J J J J (qG (k:=6) J J J J υ'75 J ζ'73 J ?_)))
   refine qP (j:=6) J J J J α'73 Tk Az (by rfl) ?_
   refine kC J J J J α'52 ζ'52 Tk 0 (us:=[_,_,_]) Az J J ?_
   refine qK J J J J (qK J J J J (qZ J J J J (qG (k:=0) J J J J υ'75 J ζ'70 J ?_)))
   refine qP (j:=0) J J J J α'70 Tk Az (by rfl) ?_
   refine qG (k:=1) J J J J υ'52 J ζ'3 J ?_
   refine qP (j:=1) J J J J α'3 Tk Az (by rfl) ?_
   have sp_7:=clock_spec pa pc vb x.v hx.v t l hth
   refine qB J J J J J J κ'38 (sp_7) Ts ?_
   rintro ⟨⟩ -
   try simp only [Ca,Na]
   refine qM (q:=6) J J J α'73 Tk Az (by rfl) ?_
   refine kW J J (us:=[_,_,_]) J α'52 ζ'52 Tk 0 Az J J ?_
   refine qV (kB J J J J (vs:=[_,_,_,_,_]) (kQ υ'112 ω'112 (ps:=[(0,3),(3,1),(4,1)]) ⟨rfl,ζ'52,rfl,ζ'3,rfl,ζ'97,trivial⟩ rfl) ?_)
   refine kJ J J J J (cW (us:=[_,_,_,_,_]) υ'73 ζ'112 J ω'112 J J J) ?_
   intro b84
   refine qM (q:=6) J J J α'73 Tk Az (by rfl) ?_
   refine qV (cN (sz:=5) (enc:=encKA) (xs:=L) J J J J J υ'73 τ'112 J J J (by decide) Tk Tk (by first | rfl | omega | (simp;done) | (simp;omega)) (ys:=[(((k,((t:Nat):Int),((o:Nat):Int)),x.v.ck.n,l.getD t 0):KA)]) (cJ cB) (by rfl) (by first | rfl | omega) (encKA_len) (encKA_one) Om (by show _*40≤_;omega) ?_)
   intro ao85 cp85
   refine qV (qZ J J J J (qG (k:=6) J J J J υ'75 J ζ'73 J ?_))
   refine kR (j:=6) J J J J ζ'73 (us:=[_]) J J J Tk Az (by first | decide | (simp;done) | omega) ?_
   simp only [setL,List.set]
   refine qV (qS (qW [0,3] (e':=[(0,_),(3,_)]) J ?_))
   refine qQ (qL (kM J (.q 0 (.q 1 (.q 2 (.q 3 (.q 4 ((.l 5 [] (.done)))))))) Kr ?_))
   refine qK J J J J (qZ J J J J (qG (k:=0) J J J J υ'75 J ζ'70 J ?_))
   refine qP (j:=0) J J J J α'70 Tk Az (by rfl) ?_
   refine kC J J J J α'52 ζ'52 Tk 0 (us:=[_,_,_]) Az J J ?_
   have sp_8:=vnext_spec pa pc vb x.v hx.v Om pl hpl k ((t:Nat):Int) ((o:Nat):Int) hv
   refine qB J J J J J J κ'39 (sp_8) Ts ?_
   rintro ⟨⟩ -
   try simp only [Ca,Na]
   refine qV (qS (qW [] (e':=[]) J ?_))
   refine qQ (qL (qC (.q 0 (.done)) Kr ?_))
   refine qR J J J J (qS (qQ (qJ ?_)))
   obtain ⟨e1,e2,e3,e4⟩:=ck_same hv
   have hvv:(heF x k ((t:Nat):Int) ((o:Nat):Int)).v=vnF x.v k ((t:Nat):Int) ((o:Nat):Int):=he_v hv
   rw [show L++[(((k,((t:Nat):Int),((o:Nat):Int)),x.v.ck.n,l.getD t 0):KA)]=(heA x L k ((t:Nat):Int) ((o:Nat):Int)) from by rw [heA_yes hv hk hth,Int.toNat_natCast]]
   refine rh_fold (b:=b) (heF x k ((t:Nat):Int) ((o:Nat):Int)) (heA x L k ((t:Nat):Int) ((o:Nat):Int)) (ra:=pa) (rc:=pc) (vb:=vb) (sa:=sa) (sn:=sn) (sc:=sc) (Aa:=ao85) (Ac:=cp85) (Fa:=Fa) (Fc:=Fc) (Ga:=Ga) (Gc:=Gc) Ts hvv.symm (by rw [hvv,e1]) (by rw [hvv,e2]) (by rw [hvv,e3]) (by rw [hvv,e4]) (by rw [heA_yes hv hk hth,Int.toNat_natCast];simp) (by rw [he_vars hv hk (w:=w) (by rw [Int.toNat_natCast];exact hw)];simp) (by rw [he_vars hv hk (w:=w) (by rw [Int.toNat_natCast];exact hw)];simp) (by rw [he_vars hv hk (w:=w) (by rw [Int.toNat_natCast];exact hw),Int.toNat_natCast];refine map_setF hw (hn1.trans ?_);cases h7:w.2.2.1 with
     | true=>rw [fsF,if_pos h7,if_pos rfl]
     | false=>rw [fsF,if_neg (by rw [h7];decide)] at hfs;exact absurd (show ((0,0,-1):T3).2.2 < 0 by decide) hfs) (by rw [he_vars hv hk (w:=w) (by rw [Int.toNat_natCast];exact hw),Int.toNat_natCast,List.map_set,hn2]) ?_
   refine cR J J (()) (by rw [show heE x k ((t:Nat):Int) ((o:Nat):Int)=0 from if_pos hv]) (by trivial) ?_
   exact Tf
  obtain ⟨hn1,hn2⟩:=nt_none (n:=x.v.ck.n) (k:=k) (t:=((t:Nat):Int)) (o:=((o:Nat):Int)) (w:=w) hgp
  refine qH (qQ (kM J (.q 0 (.q 1 (.q 2 (.q 3 (.q 4 (.q 5 (.q 6 (.q 7 (.q 8 (.q 9 (.q 10 (.q 11 (.q 12 ((.l 13 [4,5] (.q 14 ((.l 15 [4] ((.l 16 [] (.q 17 (.q 18 ((.l 19 [] (.done))))))))))))))))))))))))) Kr ?_))
  refine qK J J J J (qK J J J J (qZ J J J J (qG (k:=6) J J J J υ'75 J ζ'73 J ?_)))
  refine qP (j:=6) J J J J α'73 Tk Az (by rfl) ?_
  refine kC J J J J α'52 ζ'52 Tk 0 (us:=[_,_,_]) Az J J ?_
  refine qK J J J J (qK J J J J (qZ J J J J (qG (k:=0) J J J J υ'75 J ζ'70 J ?_)))
  refine qP (j:=0) J J J J α'70 Tk Az (by rfl) ?_
  refine qG (k:=1) J J J J υ'52 J ζ'3 J ?_
  refine qP (j:=1) J J J J α'3 Tk Az (by rfl) ?_
  have sp_9:=clock_spec pa pc vb x.v hx.v t l hth
  refine qB J J J J J J κ'38 (sp_9) Ts ?_
  rintro ⟨⟩ -
  try simp only [Ca,Na]
  refine qM (q:=6) J J J α'73 Tk Az (by rfl) ?_
  refine kW J J (us:=[_,_,_]) J α'52 ζ'52 Tk 0 Az J J ?_
  refine qV (kB J J J J (vs:=[_,_,_,_,_]) (kQ υ'112 ω'112 (ps:=[(0,3),(3,1),(4,1)]) ⟨rfl,ζ'52,rfl,ζ'3,rfl,ζ'97,trivial⟩ rfl) ?_)
  refine kJ J J J J (cW (us:=[_,_,_,_,_]) υ'73 ζ'112 J ω'112 J J J) ?_
  intro b84
  refine qM (q:=6) J J J α'73 Tk Az (by rfl) ?_
  refine qV (cN (sz:=5) (enc:=encKA) (xs:=L) J J J J J υ'73 τ'112 J J J (by decide) Tk Tk (by first | rfl | omega | (simp;done) | (simp;omega)) (ys:=[(((k,((t:Nat):Int),((o:Nat):Int)),x.v.ck.n,l.getD t 0):KA)]) (cJ cB) (by rfl) (by first | rfl | omega) (encKA_len) (encKA_one) Om (by show _*40≤_;omega) ?_)
  intro ao85 cp85
  refine qV (qZ J J J J (qG (k:=6) J J J J υ'75 J ζ'73 J ?_))
  refine kR (j:=6) J J J J ζ'73 (us:=[_]) J J J Tk Az (by first | decide | (simp;done) | omega) ?_
  simp only [setL,List.set]
  refine qV (qS (qW [0,3] (e':=[(0,_),(3,_)]) J ?_))
  refine qQ (qL (kM J (.q 0 (.q 1 (.q 2 (.q 3 (.q 4 ((.l 5 [] (.done)))))))) Kr ?_))
  refine qK J J J J (qZ J J J J (qG (k:=0) J J J J υ'75 J ζ'70 J ?_))
  refine qP (j:=0) J J J J α'70 Tk Az (by rfl) ?_
  refine kC J J J J α'52 ζ'52 Tk 0 (us:=[_,_,_]) Az J J ?_
  have sp_10:=vnext_spec pa pc vb x.v hx.v Om pl hpl k ((t:Nat):Int) ((o:Nat):Int) hv
  refine qB J J J J J J κ'39 (sp_10) Ts ?_
  rintro ⟨⟩ -
  try simp only [Ca,Na]
  refine qV (qS (qW [] (e':=[]) J ?_))
  refine qQ (qL (qC (.q 0 (.done)) Kr ?_))
  refine qR J J J J (qS (qQ (qJ ?_)))
  obtain ⟨e1,e2,e3,e4⟩:=ck_same hv
  have hvv:(heF x k ((t:Nat):Int) ((o:Nat):Int)).v=vnF x.v k ((t:Nat):Int) ((o:Nat):Int):=he_v hv
  rw [show L++[(((k,((t:Nat):Int),((o:Nat):Int)),x.v.ck.n,l.getD t 0):KA)]=(heA x L k ((t:Nat):Int) ((o:Nat):Int)) from by rw [heA_yes hv hk hth,Int.toNat_natCast]]
  refine rh_fold (b:=b) (heF x k ((t:Nat):Int) ((o:Nat):Int)) (heA x L k ((t:Nat):Int) ((o:Nat):Int)) (ra:=pa) (rc:=pc) (vb:=vb) (sa:=sa) (sn:=sn) (sc:=sc) (Aa:=ao85) (Ac:=cp85) (Fa:=Fa) (Fc:=Fc) (Ga:=Ga) (Gc:=Gc) Ts hvv.symm (by rw [hvv,e1]) (by rw [hvv,e2]) (by rw [hvv,e3]) (by rw [hvv,e4]) (by rw [heA_yes hv hk hth,Int.toNat_natCast];simp) (by rw [he_vars hv hk (w:=w) (by rw [Int.toNat_natCast];exact hw)];simp) (by rw [he_vars hv hk (w:=w) (by rw [Int.toNat_natCast];exact hw)];simp) (by rw [he_vars hv hk (w:=w) (by rw [Int.toNat_natCast];exact hw),Int.toNat_natCast];exact map_setF hw hn1) (by rw [he_vars hv hk (w:=w) (by rw [Int.toNat_natCast];exact hw),Int.toNat_natCast];exact map_setF hw hn2) ?_
  refine cR J J (()) (by rw [show heE x k ((t:Nat):Int) ((o:Nat):Int)=0 from if_pos hv]) (by trivial) ?_
  exact Tf
 refine qH (qQ (qL (kM J (.q 0 (.q 1 (.q 2 (.q 3 (.q 4 ((.l 5 [] (.done)))))))) Kr ?_)))
 refine qK J J J J (qZ J J J J (qG (k:=0) J J J J υ'75 J ζ'70 J ?_))
 refine qP (j:=0) J J J J α'70 Tk Az (by rfl) ?_
 refine kC J J J J α'52 ζ'52 Tk 0 (us:=[_,_,_]) Az J J ?_
 have sp_11:=vnext_spec pa pc vb x.v hx.v Om pl hpl k ((t:Nat):Int) ((o:Nat):Int) hv
 refine qB J J J J J J κ'39 (sp_11) Ts ?_
 rintro ⟨⟩ -
 try simp only [Ca,Na]
 refine qV (qS (qW [] (e':=[]) J ?_))
 refine qQ (qL (qC (.q 0 (.done)) Kr ?_))
 refine qR J J J J (qS (qQ (qJ ?_)))
 obtain ⟨e1,e2,e3,e4⟩:=ck_same hv
 have hvv:(heF x k ((t:Nat):Int) ((o:Nat):Int)).v=vnF x.v k ((t:Nat):Int) ((o:Nat):Int):=he_v hv
 refine cP (A:=own 5 encKA Aa Ac L) Tk ?_
 refine cL (Γ':=own 5 encKA Aa Ac (heA x L k ((t:Nat):Int) ((o:Nat):Int))::_) (fun _ h=>(by rw [heA_no hk];exact h)) ?_
 refine rh_fold (b:=b) (heF x k ((t:Nat):Int) ((o:Nat):Int)) (heA x L k ((t:Nat):Int) ((o:Nat):Int)) (ra:=pa) (rc:=pc) (vb:=vb) (sa:=sa) (sn:=sn) (sc:=sc) (Aa:=Aa) (Ac:=Ac) (Fa:=Fa) (Fc:=Fc) (Ga:=Ga) (Gc:=Gc) Ts hvv.symm (by rw [hvv,e1]) (by rw [hvv,e2]) (by rw [hvv,e3]) (by rw [hvv,e4]) (by rw [heA_no hk]) (by rw [he_vars_no hv hk]) (by rw [he_vars_no hv hk]) (by rw [he_vars_no hv hk]) (by rw [he_vars_no hv hk]) ?_
 refine cR J J (()) (by rw [show heE x k ((t:Nat):Int) ((o:Nat):Int)=0 from if_pos hv]) (by trivial) ?_
 exact Tf
theorem rev_spec (pa:Option Addr) (pc b:Nat) (x:HS) (hx:SInv x) (L:List KA) (hR:HRel L x) (hn:x.v.ck.n≤3000000000000) (pl:List Int) (hpl:x.v.ck.pa=pl) (k t o:Int):Spec Tryz.prog 18 [.pointer (some ⟨b,0,none⟩),.agg #[.int .i64 k,.int .i64 t,.int .i64 o]] [rhR pa pc b x L,own 1 encZ pa pc pl] (fun (_:Unit)=>.int .i64 (heE x k t o)) (fun _=>True) (fun _=>[rhR pa pc b (heF x k t o) (heA x L k t o),own 1 encZ pa pc pl]):=by
  by_cases hv:vcanF x.v k t o
  · have hc:=hv.1
    obtain ⟨h1,-⟩:=th_rng hx.v (can_th hc)
    have h2:0≤o:=by
      rcases hc with ⟨a,-,e,-⟩ | ⟨-,e,-⟩
      · rw [e];exact ((stF_inv hx.v.ck t).2.2.1 a).1
      · exact e
    obtain ⟨i,rfl⟩:=Int.eq_ofNat_of_zero_le h1
    obtain ⟨j,rfl⟩:=Int.eq_ofNat_of_zero_le h2
    exact rev_can pa pc b x hx L hR hn pl hpl k i j hv
  · rw [show heE x k t o=6 from if_neg hv,show heF x k t o=x from if_neg hv,show heA x L k t o=L from if_neg fun q=>hv q.1]
    exact fun Γ w s=>rev_no pa pc b x hx L hR hn k t o hv (own 1 encZ pa pc pl::Γ) w s
theorem revs_spec (pa:Option Addr) (pc b:Nat) (x:HS) (hx:SInv x) (L:List KA) (hR:HRel L x) (hn:x.v.ck.n≤2000000000000) (pl:List Int) (hpl:x.v.ck.pa=pl) (xs:List T3) (ao:Option Addr) (n c:Nat) (A:HProp) (hr:RdS A ao (xs.flatMap enc3)) (hxn:xs.length=n) (hb:n≤4000000):Spec Tryz.prog 19 [.pointer (some ⟨b,0,none⟩),.slice ao n c] [A,rhR pa pc b x L,own 1 encZ pa pc pl] (fun (i:Nat)=>.tuple #[.int .i64 ((i:Nat):Int),.int .i64 (if i=n then 0 else 6)]) (fun i=>i≤n∧okH x (xs.take i)∧(i < n→∀ e,xs[i]?=some e→¬ canH (hAll x (xs.take i)) e)) (fun i=>[A,rhR pa pc b (hAll x (xs.take i)) (hAllL x L (xs.take i)),own 1 encZ pa pc pl]):=by
 refine kS (n:=28) Tryz.func19 J J J ?_
 intro Γ w0
 simp only [argE,Ca,Na,Zd,Nat.reduceAdd]
 refine qL (qC (.q 0 (.q 1 (.done))) Kr ?_)
 refine qR J J J J (qR J J J J (qS (qQ (qL (qL (qC (.q 0 (.q 1 (.done))) Kr ?_))))))
 refine qK J J J J (cM J J J J υ'33 ?_)
 refine kF 9 J (v':=.bool false) J ?_
 refine qS (qQ (kN J ?_))
 refine qH (qQ (qL (qL (qC (.q 0 (.done)) Kr ?_))))
 refine qR J J J J (qS (qW [0,1,6] (e':=[(0,_),(1,_),(6,_)]) J ?_))
 refine qQ (kV ?_)
 refine sS (α:=Nat) (fun (i:Nat)=>i≤n∧(okH x (xs.take i))) (fun (i:Nat)=>[(6,.int .i64 ((i:Nat):Int))]) (fun (i:Nat)=>[rhR pa pc b (hAll x (xs.take i)) (hAllL x L (xs.take i)),own 1 encZ pa pc pl]) (fun (i:Nat)=>n - i) [0,1] (er:=[(0,_),(1,_)]) J (0) ?_ (by exact ⟨rfl,trivial⟩) (by (try dsimp only);(try simp only [Ad,Zd]);(repeat ((with_reducible apply Z2);focus (first | (with_reducible (repeat (first | exact Z0 | apply Z1));done) | (repeat (first | exact Z0 | apply Z1)))));exact Z3) ?_
 · exact ⟨Nat.zero_le _,fun j e h=>by simp at h⟩
 rintro i ⟨hle_i,ho⟩
 try simp only [Ca,Na]
 obtain ⟨hdn,hdp,hdt,hdv⟩:=hAll_n (xs.take i) x
 rw [List.length_take] at hdn
 refine qL (qL (qC (.q 0 (.q 1 (.q 2 (.q 3 (.done))))) Kr ?_))
 refine qK J J J J (qK J J J J (sR J J J J υ'53 ?_))
 refine qD J J J J J (sK _ _ _ _) ?_
 refine qS (qQ ?_)
 refine qF J (fun hlt=>?_) (fun hlt=>?_)
 ·
  refine qH (qQ (qL (kV (qL (qC (.q 0 (.q 1 (.q 2 (.q 3 (.q 4 ((.l 5 [] (.q 6 (.done))))))))) Kr ?_)))))
  refine qK J J J J (qK J J J J (qK J J J J ?_))
  obtain ⟨e,he⟩:=cX (l:=xs) (i:=i) (by first | omega | (simp;done) | (simp;omega))
  refine q_idxR (sz:=2) (k:=i) J J J J J υ'53 ζ'52 (hr) he enc3_len (by first | rfl | omega) Om ?_
  intro ib19 io19 _ hd19
  refine q_loadN (vs:=[_,_,_]) J J J J α'52 ζ'52 Tk (hd19) J ?_
  have sp_1:=rev_spec pa pc b (hAll x (xs.take i)) (hAll_inv hx _) (hAllL x L (xs.take i)) (rel_all _ hx hR) Om pl (hdp.trans hpl) e.1 e.2.1 e.2.2
  refine qB J J J J J J Tryz.call18 (sp_1) Ts ?_
  rintro ⟨⟩ -
  try simp only [Ca,Na]
  refine qV (qR J J J J (qS (qW [0,1,6,7] (e':=[(0,_),(1,_),(6,_),(7,_)]) J ?_)))
  refine qQ (qL (qC (.q 0 (.q 1 (.done))) Kr ?_))
  refine qK J J J J (qD J J J J J (b_neq _ _ _ _) ?_)
  refine qS (qQ ?_)
  refine qF J (fun hne=>?_) (fun hne=>?_)
  ·
   have hncan:¬ canH (hAll x (xs.take i)) e:=fun h=>hne (if_pos h)
   rw [show (heF (hAll x (xs.take i)) e.1 e.2.1 e.2.2)=(hAll x (xs.take i)) from if_neg hncan,show (heA (hAll x (xs.take i)) (hAllL x L (xs.take i)) e.1 e.2.1 e.2.2)=(hAllL x L (xs.take i)) from if_neg fun q=>hncan q.1]
   refine qL (qC (.q 0 (.q 1 (.q 2 (.q 3 (.done))))) Kr ?_)
   refine qK J J J J (qK J J J J (qR J J J J (qR J J J J (qS (qW [4,5] (e':=[(4,_),(5,_)]) J ?_)))))
   refine qQ (qJ (kH (qN (qN (kH (qN (ret2 J J J (i) (by rw [if_neg Om,show heE (hAll x (xs.take i)) e.1 e.2.1 e.2.2=6 from if_neg hncan]) (by exact ⟨by omega,ho,fun _ e2 h2=>by rw [he] at h2;cases h2;exact hncan⟩) ?_)))))))
   exact Tf
  have hcan:canH (hAll x (xs.take i)) e:=Classical.byContradiction fun h=>hne (by rw [show heE (hAll x (xs.take i)) e.1 e.2.1 e.2.2=6 from if_neg h];decide)
  refine qH (kG (qQ (qC (.q 0 (.q 1 (.q 2 (.done)))) Kr ?_)))
  refine qK J J J J (qD J J J J J (cF _ (by exact kY Om Om)) ?_)
  refine qR J J J J (qS (qW [0,1,6] (e':=[(0,_),(1,_),(6,_)]) J ?_))
  refine qQ ?_
  rw [show (heF (hAll x (xs.take i)) e.1 e.2.1 e.2.2)=hAll x (xs.take (i+1)) from (hAll_next he).symm,show (heA (hAll x (xs.take i)) (hAllL x L (xs.take i)) e.1 e.2.1 e.2.2)=hAllL x L (xs.take (i+1)) from (hAllL_next he).symm]
  refine kZ (x:=i) (i+1) ?_ ?_ ?_ ?_
  · exact ⟨by omega,okH_next he ho hcan⟩
  · show n - (i+1) < n - i;omega
  · exact ⟨rfl,rfl,rfl,trivial⟩
  · (try simp only [Ca,Na]);exact Tf
 refine cS (qY (qY (kK (qQ (qL (qC (.q 0 (.q 1 (.q 2 (.q 3 (.done))))) Kr ?_))))))
 refine qK J J J J (sR J J J J υ'53 ?_)
 refine qR J J J J (qR J J J J (qS (qW [4,5] (e':=[(4,_),(5,_)]) J ?_)))
 refine qQ (qJ ?_)
 obtain rfl:i=n:=by omega
 refine ret2 J J J (i) (by rw [if_pos rfl]) (by exact ⟨Nat.le_refl _,ho,fun h=>absurd h (Nat.lt_irrefl _)⟩) ?_
 exact Tf
end Go.Ab.Rh
set_option linter.unusedVariables false
set_option linter.unusedSimpArgs false
namespace Go.Ab
open Go
section
variable {P:Program} {r:Option Nat} {w0:World} {ds:List Deferred} {n:Nat} {e:Env} {Γ:List HProp} {K:Act→World→Prop} {l:List Oper} {i:Nat} {t:RT} {fl:List Nat}
variable {d:Nat} {ty:TypeId} {pos:String} {af:Array Edge} {g:Option (Nat × Bool)}
theorem run_indexAtA {T E:TypeId} {b o m sz:Nat} {k':IntKind} {ix:Int} (hu:P.underlying T=some (.array m E)) (hs:∀ w,(sizeOf E).run P w=.ok sz w) (h0:0≤ix) (h1:ix < m) (w:World) :
    (Instr.indexAt T (.pointer (some ⟨b,o,none⟩)) (.int k' ix)).run P w=.ok (.pointer (some ⟨b,o+ix.toNat*sz,none⟩)) w:=by
  have h2:0≤ix∧ix < m:=⟨h0,h1⟩
  simp [Instr.indexAt,Instr.sureAddr,asIntOf,run_underlying hu,hs,h2,add_none]
theorem q_idxA {T E:TypeId} {x y:Operand} {b o m sz k:Nat} {k':IntKind} {ix:Int} (ho:nthO l i=some ⟨some d,.indexAddr T x y,ty,pos,af,g⟩) (hg:gd l e g=some true) (hn:Nat.blt d n=true)
    (hx:ev e x=some (.pointer (some ⟨b,o,none⟩))) (hy:ev e y=some (.int k' ix)) (hu:P.underlying T=some (.array m E)) (hs:∀ w,(sizeOf E).run P w=.ok sz w) (hi:ix=(k:Int)) (h1:k < m)
    (kk:Le (St w0 ds n ((d,.pointer (some ⟨b,o+k*sz,none⟩))::e) Γ) (wpRT P r l.toArray K t)):Le (St w0 ds n e Γ) (wpRT P r l.toArray K (.q i t)):=by
  subst hi
  exact q_pure ho hg J hn J (fun _ h=>by cases h) (fun a w s w'=>by simp [execOp,s.ev hx,s.ev hy,run_indexAtA hu hs Om (by omega:(k:Int) < m)]) kk
end
end Go.Ab
set_option linter.unusedVariables false
set_option linter.unusedSimpArgs false
namespace Go.Ab
open Go
/-- A block's head: so many cells, none frozen. -/
def headP (b n:Nat):HProp:=fun h=>∃ t,h (b,none)=some (.inr (.inr (t,n,0,0)))
theorem Sat.newCellsH {Γ:List HProp} {w:World} (s:Sat Γ (lh w)) (c:Array Value) (t:TypeId):Sat (cells w.heap.size 0 c.toList::headP w.heap.size c.size::Γ) (lh (w.alloc (.cells c t))):=by
  have hn:lh (w.alloc (.cells c t)) (w.heap.size,none)=some (.inr (.inr (t,c.size,0,0))):=by simp only [lh,heap_alloc_same];rfl
  have s1:Sat (headP w.heap.size c.size::Γ) (fun l=>if l=(w.heap.size,none) then some (.inr (.inr (t,c.size,0,0))) else lh w l):=by
    refine s.grown (h1:=fun l=>if l=(w.heap.size,none) then some (.inr (.inr (t,c.size,0,0))) else none) ⟨t,by simp⟩ ?_ ?_ ?_
    · intro l v e;dsimp only at e ⊢;split at e
      · rename_i h;rw [if_pos h];exact e
      · cases e
    · intro l v e;show (if l=(w.heap.size,none) then _ else lh w l)=some v;split
      · rename_i h;subst h;rw [lh_none_of_ge (Nat.le_refl _)] at e;cases e
      · exact e
    · intro l v e;split at e
      · rename_i h;subst h;exact lh_none_of_ge (Nat.le_refl _) _
      · cases e
  refine s1.grown (h1:=fun l=>match l with | (b,some o)=>if b=w.heap.size then (c[o]?).map fun v=>.inl (v,false) else none | _=>none) ?_ ?_ ?_ ?_
  · intro i v hv
    simp only [Zd,if_true]
    rw [Array.getElem?_toList] at hv
    simp [hv]
  · rintro ⟨b,x⟩ v e
    cases x with
    | none=>cases e
    | some o =>
      simp only at e
      split at e
      · rename_i hb;subst hb
        simp only [lh,heap_alloc_same,lhC]
        cases hc:c[o]? with
        | none=>simp [hc] at e
        | some u=>simp [hc] at e;subst e;simp
      · cases e
  · intro l v e
    dsimp only at e
    split at e
    · rename_i h;subst h;rw [hn];exact e
    · exact lh_alloc_le w _ l v e
  · rintro ⟨b,x⟩ v e
    cases x with
    | none=>cases e
    | some o =>
      simp only at e
      split at e
      · rename_i hb;subst hb;simp [lh_none_of_ge (Nat.le_refl _)]
      · cases e
section
variable {P:Program}
theorem run_sameAddr_fresh {a b:Addr} {ca cb:Array Value} {ta tb:TypeId} {fb:Nat × Nat} (w:World) (hne:a.block≠b.block) (ha:w.heap[a.block]?=some (.cells ca ta (0,0))) (hb:w.heap[b.block]?=some (.cells cb tb fb)) (hc:cb.size≠0) :
    (sameAddr a b).run P w=.ok false w:=by
  obtain ⟨lo,hi⟩:=fb
  by_cases h1:lo≤b.off∧b.off < hi <;> by_cases h2:lo≤cb.size∧cb.size < hi <;>
  simp [sameAddr,hne,World.frozen?,ha,hb,noView,viewAt,World.shape?,mayBeOne,stringish,h1,h2,hc]
theorem run_eql_fresh {tp te:TypeId} {j:TypeInfo} {a b:Addr} {ca cb:Array Value} {ta tb:TypeId} {fb:Nat × Nat} (w:World) (hp:P.underlying tp=some (.pointer te)) (hte:P.info? te=some j) (hsz:j.size≠0)
    (hne:a.block≠b.block) (ha:w.heap[a.block]?=some (.cells ca ta (0,0))) (hb:w.heap[b.block]?=some (.cells cb tb fb)) (hc:cb.size≠0) :
    (binOp .eql tp (.pointer (some a)) (.pointer (some b))).run P w=.ok (.bool false) w:=by
  have h:∀ d:Nat,(Op.equalIn (d+1) tp (.pointer (some a)) (.pointer (some b))).run P w=.ok false w:=fun d=>by
    simp [Op.equalIn,run_underlying hp,sizeOf,typeInfo,hte,hsz,run_sameAddr_fresh w hne ha hb hc]
  simp only [binOp]
  simp [Op.equal,Op.maxDepth,h 9999]
end
section
variable {P:Program} {r:Option Nat} {w0:World} {ds:List Deferred} {n:Nat} {e:Env} {Γ:List HProp} {K:Act→World→Prop} {l:List Oper} {i:Nat} {t:RT} {fl:List Nat}
variable {d:Nat} {ty:TypeId} {pos:String} {af:Array Edge} {g:Option (Nat × Bool)}
theorem l_boxH (m:Nat) {T:TypeId} {x:Operand} {v:Value} {us:List Value} (ho:nthO l i=some ⟨some d,.box T x,ty,pos,af,g⟩) (hg:gd l e g=some true) (hn:Nat.blt d n=true) (hx:ev e x=some v) (hv:v.cells.toList=us) (hm:us.length=m)
    (k:∀ b,Le (St w0 ds n ((d,.pointer (some ⟨b,0,none⟩))::e) (cells b 0 us::headP b m::Γ)) (AG P r l.toArray fl (wpRT P r l.toArray K t))):Le (St w0 ds n e Γ) (wpRT P r l.toArray K (.l i fl t)) :=
  l_gen ho hg (fun _ h=>by cases h) (fun a w s=>by
    have hr:(execOp a.eval ⟨some d,.box T x,ty,pos,af,g⟩).run P w=.ok (.value (.pointer (some ⟨w.heap.size,0,none⟩))) (w.alloc (.cells v.cells T)):=by
      simp [execOp,s.ev hx,Instr.box,newVar,newRow]
    rw [hr]
    subst hv hm
    have s':=s.heap.newCellsH v.cells T
    rw [← Array.length_toList] at s'
    exact k _ _ _ ((s.world s' ⟨rfl,rfl,rfl,by simp⟩).put hn))
/-- Two pointers, the first to a fresh block, the second to another one. -/
theorem l_eqC {tx tz:TypeId} {x y:Operand} {ao bo:Option Addr} {E:TypeId} {j:TypeInfo} (ho:nthO l i=some ⟨some d,.binOp .eql tx x y tz,ty,pos,af,g⟩) (hg:gd l e g=some true) (hn:Nat.blt d n=true) (hx:ev e x=some (.pointer ao)) (hy:ev e y=some (.pointer bo))
    (hu:P.underlying tx=some (.pointer E)) (hi:P.info? E=some j) (hj:j.size≠0)
    (hh:∀ h,Sat Γ h→∃ a b m u fz,ao=some ⟨a,0,none⟩∧bo=some ⟨b,0,none⟩∧a≠b∧(∃ t,h (a,none)=some (.inr (.inr (t,m+1,0,0))))∧h (b,some 0)=some (.inl (u,fz)))
    (k:Le (St w0 ds n ((d,.bool false)::e) Γ) (AG P r l.toArray fl (wpRT P r l.toArray K t))):Le (St w0 ds n e Γ) (wpRT P r l.toArray K (.l i fl t)) :=
  l_gen ho hg (fun _ h=>by cases h) (fun a w s=>by
    obtain ⟨a',b',m,u,fz,rfl,rfl,hab,⟨t,h1⟩,h2⟩:=hh _ s.heap
    have ha:∃ c,w.heap[a']?=some (.cells c t (0,0))∧c.size=m+1:=by
      simp only [lh,lhO] at h1
      split at h1
      · rename_i c t' lo hi e9
        simp only [Option.some.injEq,Sum.inr.injEq,Prod.mk.injEq] at h1
        obtain ⟨rfl,h3,rfl,rfl⟩:=h1
        exact ⟨c,e9,h3⟩
      · cases h1
      · cases h1
    have hb:∃ c t f,w.heap[b']?=some (.cells c t f)∧c.size≠0:=by
      simp only [lh,lhC] at h2
      split at h2
      · rename_i c t' lo hi e9
        refine ⟨c,t',_,e9,fun h0=>?_⟩
        rw [Array.getElem?_eq_none Om] at h2;cases h2
      · cases h2
    obtain ⟨c,ha,hc⟩:=ha
    obtain ⟨c2,t2,f2,hb,hc2⟩:=hb
    have hr:(execOp a.eval ⟨some d,.binOp .eql tx x y tz,ty,pos,af,g⟩).run P w=.ok (.value (.bool false)) w:=by
      simp only [execOp,s.ev hx,s.ev hy,eqGuard,Sem.run_bind]
      simp [run_eql_fresh (P:=P) (a:=⟨a',0,none⟩) (b:=⟨b',0,none⟩) w hu hi hj hab ha hb hc2]
    rw [hr]
    exact k _ _ (s.put hn))
end
end Go.Ab
set_option linter.unusedVariables false
set_option linter.unusedSimpArgs false
namespace Go.Ab
open Go
section
variable {P:Program} {r:Option Nat} {w0:World} {ds:List Deferred} {n:Nat} {e:Env} {Γ:List HProp} {K:Act→World→Prop} {l:List Oper} {t:RT}
/-- What holds at a place of the tree is shown once, ahead of the ways that lead there. -/
theorem share {α:Type} (t':RT) (E:α→Env) (G:α→List HProp) (h:∀ a,Le (St w0 ds n (E a) (G a)) (wpRT P r l.toArray K t')) (k:(∀ a,Le (St w0 ds n (E a) (G a)) (wpRT P r l.toArray K t'))→Le (St w0 ds n e Γ) (wpRT P r l.toArray K t)):Le (St w0 ds n e Γ) (wpRT P r l.toArray K t):=k h
theorem sP {e':Env} {Δ Γ':List HProp} {X:Act→World→Prop} (ts:List Nat) (h:Le (St w0 ds n e' (Δ++Γ')) X) (he:keepE e ts=e') (tk:Takes Γ Δ Γ'):Le (St w0 ds n e Γ) X:=s_env (he ▸ keepE_le e ts) (cL (fun _ s=>tk _ s) h)
end
end Go.Ab
