/- What the law Plays rests on, part 6 of 8. -/
import Derived.Test.YtjibehgfiljbgaaPlaysE
set_option linter.unusedVariables false
set_option linter.unusedSimpArgs false
set_option maxRecDepth 100000
namespace Go.Ab.Fr
open Go Go.Proofs Go.Ab Go.Ab.Fe Go.Ab.Vc Go.Ab.Dj Go.Ab.Fa
theorem fl_rel {x:FS} {r:RS} (hR:Rel x r) {i:Nat} {q:RVr} (hq:r.X[i]?=some q):∃ w,x.vs[i]?=some w∧RelV w q∧OkV q.2.2.2.2.2.1.2.2:=by
  have hi:=(List.getElem?_eq_some_iff.1 hq).1
  rw [hR.Xn] at hi
  obtain ⟨w,hw⟩:=cP hi
  obtain ⟨a,b⟩:=hR.X i w q hw hq
  exact ⟨w,hw,a,b⟩
theorem thF_out {x:FS} (hx:FInv x) {t:Int} (h:t < 0∨x.v.ck.th≤t):thF x.v t=[]:=by
  unfold thF
  cases hq:x.v.th t with
  | none=>rfl
  | some l =>
    have h1:=(hx.v.th t).1 (by rw [hq];rfl)
    obtain ⟨s0,s1,-⟩:=stF_nz h1
    have:=hx.v.ck.tl
    omega
theorem rcost_spec (pa:Option Addr) (pc b:Nat) (M:List H) (x:FS):Spec Try.prog 57 [.pointer (some ⟨b,0,none⟩)] [rfR pa pc b M x] (fun (_:Unit)=>.int .i64 x.cost) (fun _=>True) (fun _=>[rfR pa pc b M x]):=by
 refine kP (n:=9) Try.func57 rfl rfl rfl ?_
 intro Γ w0
 simp only [argE,List.cons_append,List.nil_append,Nat.zero_add,Nat.reduceAdd]
 refine qG (qC (.q 0 (.done)) Kr ?_)
 refine qR rfl rfl rfl rfl (qS (qQ (qG (qG (qC (.q 0 (.q 1 (.done))) Kr ?_)))))
 refine qK rfl rfl rfl rfl (cY rfl rfl rfl rfl υ'31 ?_)
 refine kH 4 rfl (v':=.bool false) rfl ?_
 refine qS (qQ (kB rfl ?_))
 refine qF (qQ (qG (cK (A:=rfR pa pc b M x) Tk ?_)))
 refine rf_open fun cb Va Vc La Lc Oa Oc Ra Rc Xa Xc r hR hP=>?_
 refine qC (.q 0 (.q 1 (.q 2 (.q 3 (.q 4 (.done)))))) Kr ?_
 refine qK rfl rfl rfl rfl (qX rfl rfl rfl rfl (qL (k:=6) rfl rfl rfl rfl υ'97 rfl ζ'3 rfl ?_))
 refine qP (j:=6) rfl rfl rfl rfl α'3 Tk Az (by rfl) ?_
 refine qR rfl rfl rfl rfl (qS (qW [2] (e':=[(2,_)]) rfl ?_))
 refine qQ (qJ (rf_fold (b:=b) (M:=M) x r (pa:=pa) (pc:=pc) (cb:=cb) (Va:=Va) (Vc:=Vc) (La:=La) (Lc:=Lc) (Oa:=Oa) (Oc:=Oc) (Ra:=Ra) (Rc:=Rc) (Xa:=Xa) (Xc:=Xc) Ts rfl (by rfl) (by rfl) (by rfl) (by rfl) (by rfl) rfl rfl hR hP ?_))
 refine cR rfl rfl (()) (by first | rfl | (first | rfl | (congr 1;done) | (congr 1 <;> first | rfl | omega | (simp;done) | (simp;omega)))) (by trivial) ?_
 exact Tf
theorem rflags_spec (pa:Option Addr) (pc b:Nat) (M:List H) (x:FS) (hx:FInv x):Spec Try.prog 56 [.pointer (some ⟨b,0,none⟩)] [rfR pa pc b M x] (fun (r:Option Addr × Nat)=>.slice r.1 (flFF x.vs).length r.2) (fun r=>True) (fun r=>[rfR pa pc b M x,own 2 enc2 r.1 r.2 (flFF x.vs)]):=by
 refine kP (n:=39) Try.func56 rfl rfl rfl ?_
 intro Γ w0
 simp only [argE,List.cons_append,List.nil_append,Nat.zero_add,Nat.reduceAdd]
 refine qG (qC (.q 0 (.done)) Kr ?_)
 refine qR rfl rfl rfl rfl (qS (qQ (qG (qG (qC (.q 0 (.q 1 (.done))) Kr ?_)))))
 refine qK rfl rfl rfl rfl (cY rfl rfl rfl rfl υ'31 ?_)
 refine kH 6 rfl (v':=.bool false) rfl ?_
 refine qS (qQ (kB rfl ?_))
 refine qF (qQ (qG (qC (.q 0 (.done)) Kr ?_)))
 refine qR rfl rfl rfl rfl (qS (qQ (qG (qG ?_))))
 have hva:=hx.v.ck.sh.va
 have hvl:=hx.len
 refine cK (A:=rfR pa pc b M x) Tk ?_
 refine rf_open fun cb Va Vc La Lc Oa Oc Ra Rc Xa Xc r hR hP=>?_
 refine qC (.q 0 (.done)) Kr ?_
 refine qR rfl rfl rfl rfl (qS (qQ (kS (kF (fun _ h=>cJ (sz:=2) (enc:=enc2) h) ?_))))
 have hXn:=hR.Xn
 refine cD (α:=Nat × Option Addr × Nat) (fun (x_:Nat × Option Addr × Nat)=>match x_ with | (k,ga,gc)=>k≤x.vs.length) (fun (x_:Nat × Option Addr × Nat)=>match x_ with | (k,ga,gc)=>[(3,.slice ga ((flFF (x.vs.take k)).length) gc),(4,.int .i64 ((k:Nat):Int))]) (fun (x_:Nat × Option Addr × Nat)=>match x_ with | (k,ga,gc)=>[own 2 enc2 ga gc (flFF (x.vs.take k))]) (fun (x_:Nat × Option Addr × Nat)=>match x_ with | (k,ga,gc)=>x.vs.length - k) [0] (er:=[(0,_)]) rfl (0,none,0) ?_ (by exact ⟨rfl,rfl,trivial⟩) (by (try dsimp only);(try simp only [Nat.add_zero,Nat.zero_add]);rw [List.take_zero,show flFF ([]:List V4F)=[] from rfl];(repeat ((with_reducible apply Z2);focus (first | (with_reducible (repeat (first | exact Z0 | apply Z1));done) | (repeat (first | exact Z0 | apply Z1)))));exact Z3) ?_
 · exact Nat.zero_le _
 rintro ⟨k,ga,gc⟩ hle_k
 try simp only [List.cons_append,List.nil_append]
 have hfl:=flFF_len (x.vs.take k)
 rw [List.length_take] at hfl
 have hXn:=hR.Xn
 refine qG (qG (qC (.q 0 (.q 1 (.q 2 (.q 3 (.q 4 (.q 5 (.q 6 (.done)))))))) Kr ?_))
 refine qK rfl rfl rfl rfl (qK rfl rfl rfl rfl (qX rfl rfl rfl rfl (qL (k:=5) rfl rfl rfl rfl υ'97 rfl ζ'95 rfl ?_)))
 refine qP (j:=5) rfl rfl rfl rfl α'95 Tk Az (by rfl) ?_
 refine cH rfl rfl rfl rfl υ'95 ?_
 refine qN rfl rfl rfl rfl rfl (sK _ _ _ _) ?_
 refine qS (qW [0,3,4,13] (e':=[(0,_),(3,_),(4,_),(13,_)]) rfl ?_)
 refine qQ ?_
 refine qB rfl (fun hlt=>?_) (fun hlt=>?_)
 ·
  obtain ⟨q,hq⟩:=cP (l:=r.X) (i:=k) Om
  obtain ⟨w,hw,hrv,hov⟩:=fl_rel hR hq
  refine qF (qQ (qG (kS (qG (qC (.q 0 (.q 1 (.q 2 (.q 3 (.q 4 (.q 5 (.q 6 (.q 7 (.q 8 (.done)))))))))) Kr ?_)))))
  refine qK rfl rfl rfl rfl (qX rfl rfl rfl rfl (qL (k:=5) rfl rfl rfl rfl υ'97 rfl ζ'95 rfl ?_))
  refine qP (j:=5) rfl rfl rfl rfl α'95 Tk Az (by rfl) ?_
  refine qK rfl rfl rfl rfl (kY (sz:=6) (k:=k) (enc:=encX) (xs:=r.X) rfl rfl rfl rfl rfl υ'95 ζ'99 hq (by first | rfl | omega) Om Tk ?_)
  intro ib21 io21 ha21 hl21 hc21
  refine qL (k:=6) rfl rfl rfl rfl υ'99 rfl ζ'3 rfl ?_
  refine kQ (v:=(.int .i64 q.2.2.2.2.2.2)) (j:=6) (k':=k) (enc:=encX) (off:=io21) rfl rfl rfl rfl α'3 ha21 encX_len hq Tk (by first | rfl | exact (Nat.add_zero _).symm | omega) (by rfl) ?_
  refine qN rfl rfl rfl rfl rfl (b_geq _ _ _ _) ?_
  refine qS (qW [0,3,4,24] (e':=[(0,_),(3,_),(4,_),(24,_)]) rfl ?_)
  refine qQ ?_
  refine qB rfl (fun hfg=>?_) (fun hfg=>?_)
  ·
   refine qC (.q 0 (.q 1 (.q 2 (.q 3 (.q 4 (.q 5 (.q 6 (.q 7 (.q 8 (.q 9 (.q 10 ((.l 11 [] ((.l 12 [] (.q 13 (.done))))))))))))))))) Kr ?_
   refine qK rfl rfl rfl rfl (qK rfl rfl rfl rfl (qK rfl rfl rfl rfl (qX rfl rfl rfl rfl (qL (k:=5) rfl rfl rfl rfl υ'97 rfl ζ'95 rfl ?_))))
   refine qP (j:=5) rfl rfl rfl rfl α'95 Tk Az (by rfl) ?_
   refine qK rfl rfl rfl rfl (kY (sz:=6) (k:=k) (enc:=encX) (xs:=r.X) rfl rfl rfl rfl rfl υ'95 ζ'99 hq (by first | rfl | omega) Om Tk ?_)
   intro ib32 io32 ha32 hl32 hc32
   refine qL (k:=6) rfl rfl rfl rfl υ'99 rfl ζ'3 rfl ?_
   refine kQ (v:=(.int .i64 q.2.2.2.2.2.2)) (j:=6) (k':=k) (enc:=encX) (off:=io32) rfl rfl rfl rfl α'3 ha32 encX_len hq Tk (by first | rfl | exact (Nat.add_zero _).symm | omega) (by rfl) ?_
   refine cX rfl rfl rfl rfl (vs:=[_,_]) (kM υ'101 ω'101 (ps:=[(0,1),(1,1)]) ⟨rfl,ζ'3,rfl,ζ'3,trivial⟩ rfl) ?_
   refine cG rfl rfl rfl rfl (cB (us:=[_,_]) υ'61 ζ'101 rfl ω'101 rfl rfl rfl) ?_
   intro b36
   refine qV (sV (sz:=2) (enc:=enc2) (xs:=(flFF (x.vs.take k))) rfl rfl rfl rfl rfl υ'61 Try.typeInfo101 rfl rfl rfl (by decide) Tk Tk (by first | rfl | omega | (simp;done) | (simp;omega)) (ys:=[(((k:Nat):Int),q.2.2.2.2.2.2)]) (sW sC) (by rfl) (by first | rfl | omega) (enc2_len) (enc2_one) Om (by show _*16≤_;omega) ?_)
   intro ao37 cp37
   refine qV (qR rfl rfl rfl rfl (qS (qW [0,3,4] (e':=[(0,_),(3,_),(4,_)]) rfl ?_)))
   refine kK (qQ (qC (.q 0 (.q 1 (.q 2 (.done)))) Kr ?_))
   refine qK rfl rfl rfl rfl (qN rfl rfl rfl rfl rfl (cV _ (by exact kG Om Om)) ?_)
   refine qR rfl rfl rfl rfl (qS (qQ ?_))
   have hnx:=flFF_next hw
   rw [if_pos (by rw [← hrv.fl];exact hfg),← hrv.fl] at hnx
   rw [← hnx]
   refine kH 3 rfl (v':=.slice ao37 (flFF (x.vs.take (k+1))).length cp37) (by rw [hnx,List.length_append];rfl) ?_
   refine kH 3 rfl (v':=.slice ao37 ((flFF (x.vs.take (k+1))).length) cp37) (by first | rfl | (congr 1;done) | (congr 1 <;> first | rfl | omega | (simp;done) | (simp;omega))) ?_
   refine cQ (x:=(k,ga,gc)) ((k+1,ao37,cp37)) ?_ ?_ ?_ ?_
   · try dsimp only
     omega
   · show x.vs.length - (k+1) < x.vs.length - k;omega
   · exact ⟨rfl,rfl,rfl,trivial⟩
   · (try simp only [List.cons_append,List.nil_append]);exact Tf
  refine qF (kK (qQ (qC (.q 0 (.q 1 (.q 2 (.done)))) Kr ?_)))
  refine qK rfl rfl rfl rfl (qN rfl rfl rfl rfl rfl (cV _ (by exact kG Om Om)) ?_)
  refine qR rfl rfl rfl rfl (qS (qQ ?_))
  have hnx:=flFF_next hw
  rw [if_neg (by rw [← hrv.fl];exact hfg),List.append_nil] at hnx
  rw [← hnx]
  refine kH 3 rfl (v':=.slice ga ((flFF (x.vs.take (k+1))).length) gc) (by first | rfl | (congr 1;done) | (congr 1 <;> first | rfl | omega | (simp;done) | (simp;omega))) ?_
  refine cQ (x:=(k,ga,gc)) ((k+1,ga,gc)) ?_ ?_ ?_ ?_
  · try dsimp only
    omega
  · show x.vs.length - (k+1) < x.vs.length - k;omega
  · exact ⟨rfl,rfl,rfl,trivial⟩
  · (try simp only [List.cons_append,List.nil_append]);exact Tf
 refine cM (qZ (qZ (kV (qQ (qG (qC (.q 0 (.q 1 (.done))) Kr ?_))))))
 refine qK rfl rfl rfl rfl (qR rfl rfl rfl rfl (qS (qW [2] (e':=[(2,_)]) rfl ?_)))
 refine qQ (qJ ?_)
 have hXn:=hR.Xn
 obtain rfl:k=x.vs.length:=by omega
 rw [List.take_length]
 refine rf_fold (b:=b) (M:=M) x r (pa:=pa) (pc:=pc) (cb:=cb) (Va:=Va) (Vc:=Vc) (La:=La) (Lc:=Lc) (Oa:=Oa) (Oc:=Oc) (Ra:=Ra) (Rc:=Rc) (Xa:=Xa) (Xc:=Xc) Ts rfl (by rfl) (by rfl) (by rfl) (by rfl) (by rfl) rfl rfl hR hP ?_
 refine cR rfl rfl ((ga,gc)) (by first | rfl | (first | rfl | (congr 1;done) | (congr 1 <;> first | rfl | omega | (simp;done) | (simp;omega)))) (by trivial) ?_
 exact Tf
theorem rvector_some (pa:Option Addr) (pc b:Nat) (M:List H) (x:FS) (hx:FInv x) (i:Nat) (hi:(i:Int) < x.v.ck.th):Spec Try.prog 61 [.pointer (some ⟨b,0,none⟩),.int .i64 ((i:Nat):Int)] [rfR pa pc b M x,bigS (owA 1 encU) M] (fun (r:Option Addr × Nat)=>.slice r.1 (thF x.v (i:Int)).length r.2) (fun r=>True) (fun r=>[rfR pa pc b M x,bigS (owA 1 encU) M,own 1 encU r.1 r.2 (thF x.v (i:Int))]):=by
 refine kP (n:=28) Try.func61 rfl rfl rfl ?_
 intro Γ w0
 simp only [argE,List.cons_append,List.nil_append,Nat.zero_add,Nat.reduceAdd]
 refine qG (qC (.q 0 (.done)) Kr ?_)
 refine qR rfl rfl rfl rfl (qS (qQ (qG (qG ?_))))
 have hth:=hx.v.ck.sh.th
 refine cK (A:=rfR pa pc b M x) Tk ?_
 refine rf_open fun cb Va Vc La Lc Oa Oc Ra Rc Xa Xc r hR hP=>?_
 refine qC (.q 0 (.q 1 (.q 2 (.q 3 (.q 4 (.q 5 (.q 6 (.q 7 (.q 8 (.q 9 (.q 10 (.q 11 (.q 12 (.q 13 (.q 14 (.done)))))))))))))))) Kr ?_
 refine qK rfl rfl rfl rfl (cY rfl rfl rfl rfl υ'31 ?_)
 refine kH 6 rfl (v':=.bool false) rfl ?_
 refine qK rfl rfl rfl rfl (qK rfl rfl rfl rfl (qN rfl rfl rfl rfl rfl (sK _ _ _ _) ?_))
 refine kC rfl rfl rfl rfl rfl (qK rfl rfl rfl rfl ?_)
 refine cL 11 rfl (fun hg=>by exfalso;omega) (fun hg=>?_)
 refine qK rfl rfl rfl rfl (qK rfl rfl rfl rfl (qX rfl rfl rfl rfl (qL (k:=1) rfl rfl rfl rfl υ'97 rfl ζ'66 rfl ?_)))
 refine qP (j:=1) rfl rfl rfl rfl α'66 Tk Az (by rfl) ?_
 refine cH rfl rfl rfl rfl υ'66 ?_
 refine qN rfl rfl rfl rfl rfl (b_geq _ _ _ _) ?_
 refine kC rfl rfl rfl rfl rfl (qS (qW [0,1,19] (e':=[(0,_),(1,_),(19,_)]) rfl ?_))
 refine qQ ?_
 refine qB rfl (fun hg=>by exfalso;have:=hR.Vn;omega) (fun hg=>?_)
 refine qF (qQ (qG ?_))
 obtain ⟨h,hh⟩:=cP (l:=r.V) (i:=i) (by have:=hR.Vn;omega)
 obtain ⟨ho,htr⟩:=hR.V i h hh
 have hol:=ho.1
 refine qC (.q 0 (.q 1 (.q 2 (.q 3 (.q 4 (.q 5 (.q 6 ((.l 7 [] (.q 8 (.done))))))))))) Kr ?_
 refine qK rfl rfl rfl rfl (qX rfl rfl rfl rfl (qL (k:=1) rfl rfl rfl rfl υ'97 rfl ζ'66 rfl ?_))
 refine qP (j:=1) rfl rfl rfl rfl α'66 Tk Az (by rfl) ?_
 refine qK rfl rfl rfl rfl (kY (sz:=0) (k:=i) (enc:=encH) (xs:=r.V) rfl rfl rfl rfl rfl υ'66 ζ'50 hh (by first | rfl | omega) Om Tk ?_)
 intro ib25 io25 ha25 hl25 hc25
 refine kQ (v:=(.slice h.1 h.2.2.length h.2.1)) (j:=0) (k':=i) (enc:=encH) (off:=io25) rfl rfl rfl rfl α'50 ha25 kD hh Tk (by first | rfl | exact (Nat.add_zero _).symm | omega) (by rfl) ?_
 have sp_1:=Fr.trimmed_spec h.2.2 h.1 h.2.2.length h.2.1 (bigS (owA 1 encU) M) (inp_rds (hP.V _ (List.mem_of_getElem? hh))) Ln Om
 refine qM rfl rfl rfl rfl rfl rfl Try.call92 (sp_1) Ts ?_
 rintro ⟨qa,qc⟩ -
 try simp only [List.cons_append,List.nil_append]
 refine qV (qR rfl rfl rfl rfl (qS (qW [4] (e':=[(4,_)]) rfl ?_)))
 refine qQ (qJ ?_)
 rw [htr]
 refine rf_fold (b:=b) (M:=M) x r (pa:=pa) (pc:=pc) (cb:=cb) (Va:=Va) (Vc:=Vc) (La:=La) (Lc:=Lc) (Oa:=Oa) (Oc:=Oc) (Ra:=Ra) (Rc:=Rc) (Xa:=Xa) (Xc:=Xc) Ts rfl (by rfl) (by rfl) (by rfl) (by rfl) (by rfl) rfl rfl hR hP ?_
 refine cR rfl rfl ((qa,qc)) (by rfl) (by trivial) ?_
 exact Tf
theorem rvector_none (pa:Option Addr) (pc b:Nat) (M:List H) (x:FS) (hx:FInv x) (z:Int) (hz:z < 0∨x.v.ck.th≤z):Spec Try.prog 61 [.pointer (some ⟨b,0,none⟩),.int .i64 z] [rfR pa pc b M x,bigS (owA 1 encU) M] (fun (r:Option Addr × Nat)=>.slice r.1 (thF x.v z).length r.2) (fun r=>True) (fun r=>[rfR pa pc b M x,bigS (owA 1 encU) M,own 1 encU r.1 r.2 (thF x.v z)]):=by
 refine kP (n:=28) Try.func61 rfl rfl rfl ?_
 intro Γ w0
 simp only [argE,List.cons_append,List.nil_append,Nat.zero_add,Nat.reduceAdd]
 refine qG (qC (.q 0 (.done)) Kr ?_)
 refine qR rfl rfl rfl rfl (qS (qQ (qG (qG ?_))))
 have hth:=hx.v.ck.sh.th
 refine cK (A:=rfR pa pc b M x) Tk ?_
 refine rf_open fun cb Va Vc La Lc Oa Oc Ra Rc Xa Xc r hR hP=>?_
 refine qC (.q 0 (.q 1 (.q 2 (.q 3 (.q 4 (.q 5 (.q 6 (.q 7 (.q 8 (.q 9 (.q 10 (.q 11 (.q 12 (.q 13 (.q 14 (.done)))))))))))))))) Kr ?_
 refine qK rfl rfl rfl rfl (cY rfl rfl rfl rfl υ'31 ?_)
 refine kH 6 rfl (v':=.bool false) rfl ?_
 refine qK rfl rfl rfl rfl (qK rfl rfl rfl rfl (qN rfl rfl rfl rfl rfl (sK _ _ _ _) ?_))
 refine kC rfl rfl rfl rfl rfl (qK rfl rfl rfl rfl ?_)
 refine cL 11 rfl (fun hz1=>?_) (fun hz1=>?_)
 ·
  refine qY rfl rfl rfl rfl (qY rfl rfl rfl rfl (qY rfl rfl rfl rfl (qY rfl rfl rfl rfl (qY rfl rfl rfl rfl (qY rfl rfl rfl rfl (qY rfl rfl rfl rfl (kZ rfl rfl rfl rfl rfl (qS ?_))))))))
  refine qW [0,1,19] (e':=[(0,_),(1,_),(19,_)]) rfl ?_
  refine qQ (cN rfl ?_)
  refine qG (qC (.q 0 (.done)) Kr ?_)
  refine qR rfl rfl rfl rfl (qS (qQ (qJ (qD (kF (fun _ h=>cJ (sz:=1) (enc:=encU) h) ?_)))))
  rw [thF_out hx hz]
  refine rf_fold (b:=b) (M:=M) x r (pa:=pa) (pc:=pc) (cb:=cb) (Va:=Va) (Vc:=Vc) (La:=La) (Lc:=Lc) (Oa:=Oa) (Oc:=Oc) (Ra:=Ra) (Rc:=Rc) (Xa:=Xa) (Xc:=Xc) Ts rfl (by rfl) (by rfl) (by rfl) (by rfl) (by rfl) rfl rfl hR hP ?_
  refine cR rfl rfl ((none,0)) (by rfl) (by trivial) ?_
  exact Tf
 refine qK rfl rfl rfl rfl (qK rfl rfl rfl rfl (qX rfl rfl rfl rfl (qL (k:=1) rfl rfl rfl rfl υ'97 rfl ζ'66 rfl ?_)))
 refine qP (j:=1) rfl rfl rfl rfl α'66 Tk Az (by rfl) ?_
 refine cH rfl rfl rfl rfl υ'66 ?_
 refine qN rfl rfl rfl rfl rfl (b_geq _ _ _ _) ?_
 refine kC rfl rfl rfl rfl rfl (qS (qW [0,1,19] (e':=[(0,_),(1,_),(19,_)]) rfl ?_))
 refine qQ ?_
 refine qB rfl (fun hg=>?_) (fun hg=>by exfalso;have:=hR.Vn;omega)
 refine qG (qC (.q 0 (.done)) Kr ?_)
 refine qR rfl rfl rfl rfl (qS (qQ (qJ (qD (kF (fun _ h=>cJ (sz:=1) (enc:=encU) h) ?_)))))
 rw [thF_out hx hz]
 refine rf_fold (b:=b) (M:=M) x r (pa:=pa) (pc:=pc) (cb:=cb) (Va:=Va) (Vc:=Vc) (La:=La) (Lc:=Lc) (Oa:=Oa) (Oc:=Oc) (Ra:=Ra) (Rc:=Rc) (Xa:=Xa) (Xc:=Xc) Ts rfl (by rfl) (by rfl) (by rfl) (by rfl) (by rfl) rfl rfl hR hP ?_
 refine cR rfl rfl ((none,0)) (by rfl) (by trivial) ?_
 exact Tf
theorem rvector_spec (pa:Option Addr) (pc b:Nat) (M:List H) (x:FS) (hx:FInv x) (z:Int):Spec Try.prog 61 [.pointer (some ⟨b,0,none⟩),.int .i64 z] [rfR pa pc b M x,bigS (owA 1 encU) M] (fun (r:Option Addr × Nat)=>.slice r.1 (thF x.v z).length r.2) (fun r=>True) (fun r=>[rfR pa pc b M x,bigS (owA 1 encU) M,own 1 encU r.1 r.2 (thF x.v z)]):=by
  by_cases h:z < 0∨x.v.ck.th≤z
  · exact rvector_none pa pc b M x hx z h
  · obtain ⟨i,rfl⟩:=Int.eq_ofNat_of_zero_le (show 0≤z by omega)
    exact rvector_some pa pc b M x hx i Om
theorem repoch_spec (t:Nat) (z:Int) (ht:t < 65535) (hc:0≤z∧z≤maxC):Spec Try.prog 91 [.int .i64 ((t:Nat):Int),.int .u64 z] [] (fun (_:Unit)=>.int .u64 ((epR t z:Nat):Int)) (fun _=>True) (fun _=>[]):=by
 refine kP (n:=12) Try.func91 rfl rfl rfl ?_
 intro Γ w0
 simp only [argE,List.cons_append,List.nil_append,Nat.zero_add,Nat.reduceAdd]
 refine qG (qC (.q 0 (.done)) Kr ?_)
 refine qR rfl rfl rfl rfl (qS (qQ (qG (qG (qC (.q 0 (.q 1 (.done))) Kr ?_)))))
 refine qK rfl rfl rfl rfl (qN rfl rfl rfl rfl rfl (cS _ _ _ _) ?_)
 refine qS (qQ ?_)
 refine qB rfl (fun hz=>?_) (fun hz=>?_)
 ·
  refine qG (qC (.q 0 (.done)) Kr ?_)
  refine qR rfl rfl rfl rfl (qS (qW [4] (e':=[(4,_)]) rfl ?_))
  refine qQ (qJ (qD (cR rfl rfl (()) (by unfold epR;rw [if_pos hz];rfl) (by trivial) ?_)))
  exact Tf
 obtain ⟨q,hq⟩:=Int.eq_ofNat_of_zero_le hc.1
 simp only [maxC] at hc
 have hep:epR t z=t*281474976710656+q:=by unfold epR;rw [if_neg hz,hq];rfl
 refine qF (qQ (qG (qC (.q 0 (.q 1 (.q 2 (.q 3 (.q 4 (.q 5 (.done))))))) Kr ?_)))
 refine qK rfl rfl rfl rfl (q_conv' rfl rfl rfl rfl υ'48 υ'3 (by exact fits_u64 Om Om) ?_)
 refine qN rfl rfl rfl rfl rfl (b_mul' _ (by exact fits_u64 Om Om)) ?_
 refine qK rfl rfl rfl rfl (qN rfl rfl rfl rfl rfl (cV _ (by exact fits_u64 Om Om)) ?_)
 refine qR rfl rfl rfl rfl (qS (qW [4] (e':=[(4,_)]) rfl ?_))
 refine qQ (qJ (cR rfl rfl (()) (by rw [hep,hq];congr 1) (by trivial) ?_))
 exact Tf
theorem rstate_some (pa:Option Addr) (pc b:Nat) (M:List H) (x:FS) (i:Nat) (hi:i < x.vs.length):Spec Try.prog 58 [.pointer (some ⟨b,0,none⟩),.int .i64 ((i:Nat):Int)] [rfR pa pc b M x,bigS (owA 1 encU) M] (fun (r:Option Addr × Nat)=>.tuple #[.agg #[.int .u64 ((wrE (wFF x (i:Int)):Nat):Int),.int .u64 ((rdE (wFF x (i:Int)):Nat):Int),.bool (shE (wFF x (i:Int))).isSome,.slice r.1 ((shE (wFF x (i:Int))).getD []).length r.2],.bool (wFF x (i:Int)).isSome]) (fun r=>True) (fun r=>[rfR pa pc b M x,bigS (owA 1 encU) M,own 1 encU r.1 r.2 ((shE (wFF x (i:Int))).getD [])]):=by
 refine kP (n:=51) Try.func58 rfl rfl rfl ?_
 intro Γ w0
 simp only [argE,List.cons_append,List.nil_append,Nat.zero_add,Nat.reduceAdd]
 refine qG (qC ((.l 0 [] (.q 1 (.done)))) Kr ?_)
 refine cF rfl rfl rfl ω'52 (zs:=[.int .u64 0,.int .u64 0,.bool false,.slice none 0 0]) rfl ?_
 intro b4
 refine qV (qR rfl rfl rfl rfl (qS (qQ (qG (qG (cK (A:=rfR pa pc b M x) Tk ?_))))))
 refine rf_open fun cb Va Vc La Lc Oa Oc Ra Rc Xa Xc r hR hP=>?_
 refine qC (.q 0 (.q 1 (.q 2 (.q 3 (.q 4 (.q 5 (.q 6 (.q 7 (.q 8 (.q 9 (.q 10 (.q 11 (.q 12 (.q 13 (.q 14 (.done)))))))))))))))) Kr ?_
 refine qK rfl rfl rfl rfl (cY rfl rfl rfl rfl υ'31 ?_)
 refine kH 9 rfl (v':=.bool false) rfl ?_
 refine qK rfl rfl rfl rfl (qK rfl rfl rfl rfl (qN rfl rfl rfl rfl rfl (sK _ _ _ _) ?_))
 refine kC rfl rfl rfl rfl rfl (qK rfl rfl rfl rfl ?_)
 refine cL 14 rfl (fun hg=>by exfalso;omega) (fun hg=>?_)
 refine qK rfl rfl rfl rfl (qK rfl rfl rfl rfl (qX rfl rfl rfl rfl (qL (k:=5) rfl rfl rfl rfl υ'97 rfl ζ'95 rfl ?_)))
 refine qP (j:=5) rfl rfl rfl rfl α'95 Tk Az (by rfl) ?_
 refine cH rfl rfl rfl rfl υ'95 ?_
 refine qN rfl rfl rfl rfl rfl (b_geq _ _ _ _) ?_
 refine kC rfl rfl rfl rfl rfl (qS (qW [0,1,4,22] (e':=[(0,_),(1,_),(4,_),(22,_)]) rfl ?_))
 refine qQ ?_
 refine qB rfl (fun hg=>by exfalso;have:=hR.Xn;omega) (fun hg=>?_)
 refine qF (qQ (qG ?_))
 obtain ⟨q,hq⟩:=cP (l:=r.X) (i:=i) (by have:=hR.Xn;omega)
 obtain ⟨w,hw,hrv,hov⟩:=fl_rel hR hq
 obtain ⟨ht1,ht2⟩:=hrv.th
 obtain ⟨hc1,hc2⟩:=hrv.c
 have hol:=hov.1
 have hW:wFF x (i:Int)=some w:=by rw [wFF_nat,hw]
 refine qC (.q 0 (.q 1 (.q 2 (.q 3 (.q 4 (.q 5 (.q 6 ((.l 7 [] ((.l 8 [] (.done)))))))))))) Kr ?_
 refine qK rfl rfl rfl rfl (qX rfl rfl rfl rfl (qL (k:=5) rfl rfl rfl rfl υ'97 rfl ζ'95 rfl ?_))
 refine qP (j:=5) rfl rfl rfl rfl α'95 Tk Az (by rfl) ?_
 refine qK rfl rfl rfl rfl (kY (sz:=6) (k:=i) (enc:=encX) (xs:=r.X) rfl rfl rfl rfl rfl υ'95 ζ'99 hq (by first | rfl | omega) Om Tk ?_)
 intro ib29 io29 ha29 hl29 hc29
 refine q_loadN_O (j:=0) (k':=i) (us:=[_,_,_,_,_,_,_]) (enc:=encX) (off:=io29) rfl rfl rfl rfl α'99 ζ'99 ha29 encX_len hq Tk (by first | rfl | exact (Nat.add_zero _).symm | omega) (by rfl) rfl ?_
 refine cF rfl rfl rfl ω'99 (zs:=[.int .i64 0,.int .i64 0,.int .u64 0,.int .u64 0,.bool false,.slice none 0 0,.int .i64 0]) rfl ?_
 intro b6
 refine qV (kR (j:=0) rfl rfl rfl rfl ζ'99 (us:=[_,_,_,_,_,_,_]) rfl rfl rfl Tk Az (by first | decide | (simp;done) | omega) ?_)
 simp only [setL,List.set]
 refine qV (qS (qW [4,6] (e':=[(4,_),(6,_)]) rfl ?_))
 refine qQ ?_
 refine c_seqJ (α:=Nat) (fun (sb7:Nat)=>True) (fun (sb7:Nat)=>[(7,.pointer (some ⟨sb7,0,none⟩))]) (fun (sb7:Nat)=>[cells sb7 0 [.int .u64 ((epR q.1 q.2.2.1:Nat):Int),.int .u64 ((epR q.2.1 q.2.2.2.1:Nat):Int),.bool q.2.2.2.2.1,.slice none 0 0]]) [4,6] (er:=[(4,_),(6,_)]) rfl [] Ts ?_ ?_
 ·
  refine kX rfl (.q 0 (.q 1 (.q 2 (.q 3 (.q 5 (.q 6 (.q 7 (.q 8 (.q 10 (.q 11 ((.alt (.l 4 [6,8,11] ((.alt (.l 9 [11] (.q 12 ((.l 13 [11] ((.l 14 [] (.done))))))) (.l 13 [6,8,11] ((.l 9 [11] (.q 12 ((.l 14 [] (.done)))))))))) (.l 13 [1,3,6,8,11] ((.l 4 [6,8,11] ((.l 9 [11] (.q 12 ((.l 14 [] (.done))))))))))))))))))))) Kr ?_
  refine qL (k:=0) rfl rfl rfl rfl υ'99 rfl ζ'3 rfl ?_
  refine qP (j:=0) rfl rfl rfl rfl α'3 Tk Az (by rfl) ?_
  refine qL (k:=2) rfl rfl rfl rfl υ'99 rfl ζ'48 rfl ?_
  refine qP (j:=2) rfl rfl rfl rfl α'48 Tk Az (by rfl) ?_
  refine qL (k:=1) rfl rfl rfl rfl υ'99 rfl ζ'3 rfl ?_
  refine qP (j:=1) rfl rfl rfl rfl α'3 Tk Az (by rfl) ?_
  refine qL (k:=3) rfl rfl rfl rfl υ'99 rfl ζ'48 rfl ?_
  refine qP (j:=3) rfl rfl rfl rfl α'48 Tk Az (by rfl) ?_
  refine qL (k:=4) rfl rfl rfl rfl υ'99 rfl ζ'4 rfl ?_
  refine qP (j:=4) rfl rfl rfl rfl α'4 Tk Az (by rfl) ?_
  refine r_alt ?_ ?_
  ·
   have sp_1:=repoch_spec q.1 q.2.2.1 Om (by assumption)
   refine qM rfl rfl rfl rfl rfl rfl κ'91 (sp_1) Ts ?_
   rintro ⟨⟩ -
   try simp only [List.cons_append,List.nil_append]
   refine qH (q:=1) rfl rfl rfl α'3 Tk Az (by rfl) ?_
   refine qH (q:=3) rfl rfl rfl α'48 Tk Az (by rfl) ?_
   refine qH (q:=4) rfl rfl rfl α'4 Tk Az (by rfl) ?_
   refine qV ?_
   refine r_alt ?_ ?_
   ·
    have sp_2:=repoch_spec q.2.1 q.2.2.2.1 Om (by assumption)
    refine qM rfl rfl rfl rfl rfl rfl κ'91 (sp_2) Ts ?_
    rintro ⟨⟩ -
    try simp only [List.cons_append,List.nil_append]
    refine qH (q:=4) rfl rfl rfl α'4 Tk Az (by rfl) ?_
    refine qV (cX rfl rfl rfl rfl (vs:=[_,_,_,_]) (kM υ'52 ω'52 (ps:=[(0,1),(1,1),(2,1),(3,1)]) ⟨rfl,ζ'49,rfl,ζ'49,rfl,ζ'4,rfl,ζ'50,trivial⟩ rfl) ?_)
    refine cF rfl rfl rfl ω'52 (zs:=[.int .u64 0,.int .u64 0,.bool false,.slice none 0 0]) rfl ?_
    intro b7
    refine qH (q:=4) rfl rfl rfl α'4 Tk Az (by rfl) ?_
    refine qV (kR (j:=0) rfl rfl rfl rfl ζ'52 (us:=[_,_,_,_]) rfl rfl rfl Tk Az (by first | decide | (simp;done) | omega) ?_)
    simp only [setL,List.set]
    refine qV (qS (qW [4,6,7] (e':=[(4,_),(6,_),(7,_)]) rfl ?_))
    refine qQ ?_
    refine sY (b7) (by trivial) (by exact ⟨rfl,rfl,rfl,trivial⟩) (by (try simp only [List.cons_append,List.nil_append]);(repeat ((with_reducible apply Z2);focus (first | (with_reducible (repeat (first | exact Z0 | apply Z1));done) | (repeat (first | exact Z0 | apply Z1)))));(repeat (first | exact Z3 | exact Takes.self | refine sS ?_)))
   refine cF rfl rfl rfl ω'52 (zs:=[.int .u64 0,.int .u64 0,.bool false,.slice none 0 0]) rfl ?_
   intro b7
   refine qH (q:=1) rfl rfl rfl α'3 Tk Az (by rfl) ?_
   refine qH (q:=3) rfl rfl rfl α'48 Tk Az (by rfl) ?_
   refine qH (q:=4) rfl rfl rfl α'4 Tk Az (by rfl) ?_
   refine qV ?_
   have sp_3:=repoch_spec q.2.1 q.2.2.2.1 Om (by assumption)
   refine qM rfl rfl rfl rfl rfl rfl κ'91 (sp_3) Ts ?_
   rintro ⟨⟩ -
   try simp only [List.cons_append,List.nil_append]
   refine qH (q:=4) rfl rfl rfl α'4 Tk Az (by rfl) ?_
   refine qV (cX rfl rfl rfl rfl (vs:=[_,_,_,_]) (kM υ'52 ω'52 (ps:=[(0,1),(1,1),(2,1),(3,1)]) ⟨rfl,ζ'49,rfl,ζ'49,rfl,ζ'4,rfl,ζ'50,trivial⟩ rfl) ?_)
   refine kR (j:=0) rfl rfl rfl rfl ζ'52 (us:=[_,_,_,_]) rfl rfl rfl Tk Az (by first | decide | (simp;done) | omega) ?_
   simp only [setL,List.set]
   refine qV (qS (qW [4,6,7] (e':=[(4,_),(6,_),(7,_)]) rfl ?_))
   refine qQ ?_
   refine sY (b7) (by trivial) (by exact ⟨rfl,rfl,rfl,trivial⟩) (by (try simp only [List.cons_append,List.nil_append]);(repeat ((with_reducible apply Z2);focus (first | (with_reducible (repeat (first | exact Z0 | apply Z1));done) | (repeat (first | exact Z0 | apply Z1)))));(repeat (first | exact Z3 | exact Takes.self | refine sS ?_)))
  refine cF rfl rfl rfl ω'52 (zs:=[.int .u64 0,.int .u64 0,.bool false,.slice none 0 0]) rfl ?_
  intro b7
  refine qH (q:=0) rfl rfl rfl α'3 Tk Az (by rfl) ?_
  refine qH (q:=2) rfl rfl rfl α'48 Tk Az (by rfl) ?_
  refine qH (q:=1) rfl rfl rfl α'3 Tk Az (by rfl) ?_
  refine qH (q:=3) rfl rfl rfl α'48 Tk Az (by rfl) ?_
  refine qH (q:=4) rfl rfl rfl α'4 Tk Az (by rfl) ?_
  refine qV ?_
  have sp_4:=repoch_spec q.1 q.2.2.1 Om (by assumption)
  refine qM rfl rfl rfl rfl rfl rfl κ'91 (sp_4) Ts ?_
  rintro ⟨⟩ -
  try simp only [List.cons_append,List.nil_append]
  refine qH (q:=1) rfl rfl rfl α'3 Tk Az (by rfl) ?_
  refine qH (q:=3) rfl rfl rfl α'48 Tk Az (by rfl) ?_
  refine qH (q:=4) rfl rfl rfl α'4 Tk Az (by rfl) ?_
  refine qV ?_
  have sp_5:=repoch_spec q.2.1 q.2.2.2.1 Om (by assumption)
  refine qM rfl rfl rfl rfl rfl rfl κ'91 (sp_5) Ts ?_
  rintro ⟨⟩ -
  try simp only [List.cons_append,List.nil_append]
  refine qH (q:=4) rfl rfl rfl α'4 Tk Az (by rfl) ?_
  refine qV (cX rfl rfl rfl rfl (vs:=[_,_,_,_]) (kM υ'52 ω'52 (ps:=[(0,1),(1,1),(2,1),(3,1)]) ⟨rfl,ζ'49,rfl,ζ'49,rfl,ζ'4,rfl,ζ'50,trivial⟩ rfl) ?_)
  refine kR (j:=0) rfl rfl rfl rfl ζ'52 (us:=[_,_,_,_]) rfl rfl rfl Tk Az (by first | decide | (simp;done) | omega) ?_
  simp only [setL,List.set]
  refine qV (qS (qW [4,6,7] (e':=[(4,_),(6,_),(7,_)]) rfl ?_))
  refine qQ ?_
  refine sY (b7) (by trivial) (by exact ⟨rfl,rfl,rfl,trivial⟩) (by (try simp only [List.cons_append,List.nil_append]);(repeat ((with_reducible apply Z2);focus (first | (with_reducible (repeat (first | exact Z0 | apply Z1));done) | (repeat (first | exact Z0 | apply Z1)))));(repeat (first | exact Z3 | exact Takes.self | refine sS ?_)))
 rintro sb7 -
 try simp only [List.cons_append,List.nil_append]
 refine qG (qG (qC (.q 0 (.q 1 (.done))) Kr ?_))
 refine qL (k:=4) rfl rfl rfl rfl υ'99 rfl ζ'4 rfl ?_
 refine qP (j:=4) rfl rfl rfl rfl α'4 Tk Az (by rfl) ?_
 refine qS (qQ ?_)
 refine c_cond rfl (fun hsh=>?_) (fun hsh=>?_)
 ·
  try simp only [Bool.and_eq_true,Bool.or_eq_true,Bool.not_eq_true',Bool.not_eq_false',Bool.and_eq_false_iff,Bool.or_eq_false_iff,decide_eq_true_eq,decide_eq_false_iff_not] at hsh
  refine qC (.q 0 (.q 1 ((.l 2 [] (.q 3 ((.l 4 [] (.done)))))))) Kr ?_
  refine qL (k:=5) rfl rfl rfl rfl υ'99 rfl ζ'50 rfl ?_
  refine qP (j:=5) rfl rfl rfl rfl α'50 Tk Az (by rfl) ?_
  have sp_6:=Fr.trimmed_spec q.2.2.2.2.2.1.2.2 q.2.2.2.2.2.1.1 q.2.2.2.2.2.1.2.2.length q.2.2.2.2.2.1.2.1 (bigS (owA 1 encU) M) (inp_rds (hP.X _ (List.mem_of_getElem? hq))) Ln Om
  refine qM rfl rfl rfl rfl rfl rfl Try.call92 (sp_6) Ts ?_
  rintro ⟨va,vc⟩ -
  try simp only [List.cons_append,List.nil_append]
  refine qV (qL (k:=3) rfl rfl rfl rfl υ'52 rfl ζ'50 rfl ?_)
  refine kR (j:=3) rfl rfl rfl rfl ζ'50 (us:=[_]) rfl rfl rfl Tk Az (by first | decide | (simp;done) | omega) ?_
  simp only [setL,List.set]
  refine qV (qS (qW [4,7] (e':=[(4,_),(7,_)]) rfl ?_))
  refine qQ (qG (qC (.q 0 ((.l 1 [] (.q 2 (.done))))) Kr ?_))
  refine kN rfl rfl rfl rfl α'52 ζ'52 Tk 0 (us:=[_,_,_,_]) Az rfl rfl ?_
  refine kR (j:=0) rfl rfl rfl rfl ζ'52 (us:=[_,_,_,_]) rfl rfl rfl Tk Az (by first | decide | (simp;done) | omega) ?_
  simp only [setL,List.set]
  refine qV (qR rfl rfl rfl rfl (qS (qQ (qJ ?_))))
  have hv9:w.2.2.1=some (tr q.2.2.2.2.2.1.2.2):=by rw [hrv.vec,if_pos hsh]
  rw [show (shE (wFF x (i:Int))).getD []=tr q.2.2.2.2.2.1.2.2 from by rw [hW];show (w.2.2.1).getD []=_;rw [hv9];rfl]
  refine rf_fold (b:=b) (M:=M) x r (pa:=pa) (pc:=pc) (cb:=cb) (Va:=Va) (Vc:=Vc) (La:=La) (Lc:=Lc) (Oa:=Oa) (Oc:=Oc) (Ra:=Ra) (Rc:=Rc) (Xa:=Xa) (Xc:=Xc) Ts rfl (by rfl) (by rfl) (by rfl) (by rfl) (by rfl) rfl rfl hR hP ?_
  refine retL (us:=[_,_]) rfl ⟨rv_cellN rfl α'52 ζ'52 Tk 0 rfl (us:=[_,_,_,_]) rfl rfl,rv_tmp rfl,trivial⟩ ((va,vc)) (by rw [hW];show _=Value.tuple #[.agg #[.int .u64 ((w.1:Nat):Int),.int .u64 ((w.2.1:Nat):Int),.bool w.2.2.1.isSome,.slice va (tr q.2.2.2.2.2.1.2.2).length vc],.bool true];rw [hrv.we,hrv.re,← hrv.sh];rfl) (by trivial) ?_
  exact Tf
 try simp only [Bool.and_eq_true,Bool.or_eq_true,Bool.not_eq_true',Bool.not_eq_false',Bool.and_eq_false_iff,Bool.or_eq_false_iff,decide_eq_true_eq,decide_eq_false_iff_not] at hsh
 refine qF (qQ (qG (qC (.q 0 ((.l 1 [] (.q 2 (.done))))) Kr ?_)))
 refine kN rfl rfl rfl rfl α'52 ζ'52 Tk 0 (us:=[_,_,_,_]) Az rfl rfl ?_
 refine kR (j:=0) rfl rfl rfl rfl ζ'52 (us:=[_,_,_,_]) rfl rfl rfl Tk Az (by first | decide | (simp;done) | omega) ?_
 simp only [setL,List.set]
 refine qV (qR rfl rfl rfl rfl (qS (qW [4,5] (e':=[(4,_),(5,_)]) rfl ?_)))
 refine qQ (qJ ?_)
 have hv9:w.2.2.1=none:=by rw [hrv.vec,if_neg (by rw [hsh];decide)]
 refine kF (fun _ h=>cJ (sz:=1) (enc:=encU) h) ?_
 rw [show (shE (wFF x (i:Int))).getD []=[] from by rw [hW];show (w.2.2.1).getD []=_;rw [hv9];rfl]
 refine rf_fold (b:=b) (M:=M) x r (pa:=pa) (pc:=pc) (cb:=cb) (Va:=Va) (Vc:=Vc) (La:=La) (Lc:=Lc) (Oa:=Oa) (Oc:=Oc) (Ra:=Ra) (Rc:=Rc) (Xa:=Xa) (Xc:=Xc) Ts rfl (by rfl) (by rfl) (by rfl) (by rfl) (by rfl) rfl rfl hR hP ?_
 refine retL (us:=[_,_]) rfl ⟨rv_cellN rfl α'52 ζ'52 Tk 0 rfl (us:=[_,_,_,_]) rfl rfl,rv_tmp rfl,trivial⟩ ((none,0)) (by rw [hW];show _=Value.tuple #[.agg #[.int .u64 ((w.1:Nat):Int),.int .u64 ((w.2.1:Nat):Int),.bool w.2.2.1.isSome,.slice none 0 0],.bool true];rw [hrv.we,hrv.re,← hrv.sh];rfl) (by trivial) ?_
 exact Tf
theorem rstate_none (pa:Option Addr) (pc b:Nat) (M:List H) (x:FS) (z:Int) (hz:z < 0∨(x.vs.length:Int)≤z):Spec Try.prog 58 [.pointer (some ⟨b,0,none⟩),.int .i64 z] [rfR pa pc b M x,bigS (owA 1 encU) M] (fun (r:Option Addr × Nat)=>.tuple #[.agg #[.int .u64 ((wrE (wFF x z):Nat):Int),.int .u64 ((rdE (wFF x z):Nat):Int),.bool (shE (wFF x z)).isSome,.slice r.1 ((shE (wFF x z)).getD []).length r.2],.bool (wFF x z).isSome]) (fun r=>True) (fun r=>[rfR pa pc b M x,bigS (owA 1 encU) M,own 1 encU r.1 r.2 ((shE (wFF x z)).getD [])]):=by
 refine kP (n:=51) Try.func58 rfl rfl rfl ?_
 intro Γ w0
 simp only [argE,List.cons_append,List.nil_append,Nat.zero_add,Nat.reduceAdd]
 refine qG (qC ((.l 0 [] (.q 1 (.done)))) Kr ?_)
 refine cF rfl rfl rfl ω'52 (zs:=[.int .u64 0,.int .u64 0,.bool false,.slice none 0 0]) rfl ?_
 intro b4
 refine qV (qR rfl rfl rfl rfl (qS (qQ (qG (qG (cK (A:=rfR pa pc b M x) Tk ?_))))))
 refine rf_open fun cb Va Vc La Lc Oa Oc Ra Rc Xa Xc r hR hP=>?_
 refine qC (.q 0 (.q 1 (.q 2 (.q 3 (.q 4 (.q 5 (.q 6 (.q 7 (.q 8 (.q 9 (.q 10 (.q 11 (.q 12 (.q 13 (.q 14 (.done)))))))))))))))) Kr ?_
 refine qK rfl rfl rfl rfl (cY rfl rfl rfl rfl υ'31 ?_)
 refine kH 9 rfl (v':=.bool false) rfl ?_
 refine qK rfl rfl rfl rfl (qK rfl rfl rfl rfl (qN rfl rfl rfl rfl rfl (sK _ _ _ _) ?_))
 refine kC rfl rfl rfl rfl rfl (qK rfl rfl rfl rfl ?_)
 refine cL 14 rfl (fun hz1=>?_) (fun hz1=>?_)
 ·
  refine qY rfl rfl rfl rfl (qY rfl rfl rfl rfl (qY rfl rfl rfl rfl (qY rfl rfl rfl rfl (qY rfl rfl rfl rfl (qY rfl rfl rfl rfl (qY rfl rfl rfl rfl (kZ rfl rfl rfl rfl rfl (qS ?_))))))))
  refine qW [0,1,4,22] (e':=[(0,_),(1,_),(4,_),(22,_)]) rfl ?_
  refine qQ (cN rfl ?_)
  refine qG (qC (.q 0 ((.l 1 [] (.q 2 (.done))))) Kr ?_)
  refine cX rfl rfl rfl rfl (vs:=[_,_,_,_]) (kM υ'52 ω'52 (ps:=[(0,1),(1,1),(2,1),(3,1)]) ⟨rfl,ζ'49,rfl,ζ'49,rfl,ζ'4,rfl,ζ'50,trivial⟩ rfl) ?_
  refine kR (j:=0) rfl rfl rfl rfl ζ'52 (us:=[_,_,_,_]) rfl rfl rfl Tk Az (by first | decide | (simp;done) | omega) ?_
  simp only [setL,List.set]
  refine qV (qR rfl rfl rfl rfl (qS (qW [4,5] (e':=[(4,_),(5,_)]) rfl ?_)))
  refine qQ (qJ (qD ?_))
  rw [wFF_none hz]
  refine kF (fun _ h=>cJ (sz:=1) (enc:=encU) h) ?_
  refine rf_fold (b:=b) (M:=M) x r (pa:=pa) (pc:=pc) (cb:=cb) (Va:=Va) (Vc:=Vc) (La:=La) (Lc:=Lc) (Oa:=Oa) (Oc:=Oc) (Ra:=Ra) (Rc:=Rc) (Xa:=Xa) (Xc:=Xc) Ts rfl (by rfl) (by rfl) (by rfl) (by rfl) (by rfl) rfl rfl hR hP ?_
  refine retL (us:=[_,_]) rfl ⟨rv_cellN rfl α'52 ζ'52 Tk 0 rfl (us:=[_,_,_,_]) rfl rfl,rv_tmp rfl,trivial⟩ ((none,0)) (by rfl) (by trivial) ?_
  exact Tf
 refine qK rfl rfl rfl rfl (qK rfl rfl rfl rfl (qX rfl rfl rfl rfl (qL (k:=5) rfl rfl rfl rfl υ'97 rfl ζ'95 rfl ?_)))
 refine qP (j:=5) rfl rfl rfl rfl α'95 Tk Az (by rfl) ?_
 refine cH rfl rfl rfl rfl υ'95 ?_
 refine qN rfl rfl rfl rfl rfl (b_geq _ _ _ _) ?_
 refine kC rfl rfl rfl rfl rfl (qS (qW [0,1,4,22] (e':=[(0,_),(1,_),(4,_),(22,_)]) rfl ?_))
 refine qQ ?_
 refine qB rfl (fun hg=>?_) (fun hg=>by exfalso;have:=hR.Xn;omega)
 refine qG (qC (.q 0 ((.l 1 [] (.q 2 (.done))))) Kr ?_)
 refine cX rfl rfl rfl rfl (vs:=[_,_,_,_]) (kM υ'52 ω'52 (ps:=[(0,1),(1,1),(2,1),(3,1)]) ⟨rfl,ζ'49,rfl,ζ'49,rfl,ζ'4,rfl,ζ'50,trivial⟩ rfl) ?_
 refine kR (j:=0) rfl rfl rfl rfl ζ'52 (us:=[_,_,_,_]) rfl rfl rfl Tk Az (by first | decide | (simp;done) | omega) ?_
 simp only [setL,List.set]
 refine qV (qR rfl rfl rfl rfl (qS (qW [4,5] (e':=[(4,_),(5,_)]) rfl ?_)))
 refine qQ (qJ (qD ?_))
 rw [wFF_none hz]
 refine kF (fun _ h=>cJ (sz:=1) (enc:=encU) h) ?_
 refine rf_fold (b:=b) (M:=M) x r (pa:=pa) (pc:=pc) (cb:=cb) (Va:=Va) (Vc:=Vc) (La:=La) (Lc:=Lc) (Oa:=Oa) (Oc:=Oc) (Ra:=Ra) (Rc:=Rc) (Xa:=Xa) (Xc:=Xc) Ts rfl (by rfl) (by rfl) (by rfl) (by rfl) (by rfl) rfl rfl hR hP ?_
 refine retL (us:=[_,_]) rfl ⟨rv_cellN rfl α'52 ζ'52 Tk 0 rfl (us:=[_,_,_,_]) rfl rfl,rv_tmp rfl,trivial⟩ ((none,0)) (by rfl) (by trivial) ?_
 exact Tf
theorem rstate_spec (pa:Option Addr) (pc b:Nat) (M:List H) (x:FS) (z:Int):Spec Try.prog 58 [.pointer (some ⟨b,0,none⟩),.int .i64 z] [rfR pa pc b M x,bigS (owA 1 encU) M] (fun (r:Option Addr × Nat)=>.tuple #[.agg #[.int .u64 ((wrE (wFF x z):Nat):Int),.int .u64 ((rdE (wFF x z):Nat):Int),.bool (shE (wFF x z)).isSome,.slice r.1 ((shE (wFF x z)).getD []).length r.2],.bool (wFF x z).isSome]) (fun r=>True) (fun r=>[rfR pa pc b M x,bigS (owA 1 encU) M,own 1 encU r.1 r.2 ((shE (wFF x z)).getD [])]):=by
  rcases wFF_cases x z with ⟨i,q,rfl,hw⟩ | hz
  · exact rstate_some pa pc b M x i (List.getElem?_eq_some_iff.1 hw).1
  · exact rstate_none pa pc b M x z hz
end Go.Ab.Fr
set_option linter.unusedVariables false
set_option linter.unusedSimpArgs false
set_option maxRecDepth 100000
namespace Go.Ab.Fr
open Go Go.Proofs Go.Ab Go.Ab.Fe Go.Ab.Vc Go.Ab.Dj Go.Ab.Fa
theorem rnew_spec (th va vo lk:Int) (pl:List Int) (ao:Option Addr) (n c:Nat) (A:HProp) (hr:RdS A ao (pl.flatMap encZ)) (hn:pl.length=n) (hb:n≤4000000) (M:List H) (hok:OkS th va vo lk pl):Spec Try.prog 10 [.agg #[.int .i64 th,.int .i64 va,.int .i64 vo,.int .i64 lk,.slice ao n c]] [A,bigS (owA 1 encU) M] (fun (r:Nat × (Option Addr × Nat) × H)=>.tuple #[.pointer (some ⟨r.1,0,none⟩),.int .i64 0]) (fun r=>r.2.2.2.2=[1]) (fun r=>[A,bigS (owA 1 encU) (M++[r.2.2]),own 1 encZ r.2.1.1 r.2.1.2 pl,rfR r.2.1.1 r.2.1.2 r.1 (M++[r.2.2]) (fNew th va vo lk pl)]):=by
 refine kP (n:=51) Try.func10 rfl rfl rfl ?_
 intro Γ w0
 simp only [argE,List.cons_append,List.nil_append,Nat.zero_add,Nat.reduceAdd]
 refine qG (qC ((.l 0 [] (.q 1 (.q 2 (.done))))) Kr ?_)
 refine sX rfl rfl rfl rfl (us:=[_,_,_,_,_]) rfl ?_
 intro b1
 refine qV (qR rfl rfl rfl rfl (qR rfl rfl rfl rfl (qS (qQ (qG (qC (.q 0 ((.l 1 [] (.q 2 (.q 3 (.q 4 (.q 5 (.q 6 (.done))))))))) Kr ?_))))))
 refine kN rfl rfl rfl rfl α'25 ζ'25 Tk 0 (us:=[_,_,_,_,_]) Az rfl rfl ?_
 have sp_1:=Fe.rnew_spec th va vo lk pl ao n c A (hr) Ln Om hok
 refine qM rfl rfl rfl rfl rfl rfl Try.call31 (sp_1) Ts ?_
 rintro ⟨nq,nqp,nqc⟩ -
 try simp only [List.cons_append,List.nil_append]
 refine qV (qK rfl rfl rfl rfl (kW rfl rfl rfl rfl rfl (kW rfl rfl rfl rfl rfl (qR rfl rfl rfl rfl (qR rfl rfl rfl rfl (qS (qW [1,4,5] (e':=[(1,_),(4,_),(5,_)]) rfl ?_)))))))
 refine qQ (qG (qG ?_))
 have hth:=hok.th;have hva:=hok.va;have hvo:=hok.vo;have hlk:=hok.lk
 obtain ⟨tn,htn⟩:∃ q:Nat,th=(q:Int):=⟨th.toNat,by omega⟩
 obtain ⟨vn,hvn⟩:∃ q:Nat,va=(q:Int):=⟨va.toNat,by omega⟩
 obtain ⟨on,hon⟩:∃ q:Nat,vo=(q:Int):=⟨vo.toNat,by omega⟩
 obtain ⟨ln,hln⟩:∃ q:Nat,lk=(q:Int):=⟨lk.toNat,by omega⟩
 refine cK (A:=cells b1 0 [.int .i64 th,.int .i64 va,.int .i64 vo,.int .i64 lk,.slice ao n c]) Tk ?_
 refine kF (Γ':=cells b1 0 [.int .i64 ((tn:Nat):Int),.int .i64 ((vn:Nat):Int),.int .i64 ((on:Nat):Int),.int .i64 ((ln:Nat):Int),.slice ao n c]::_) (fun _ h=>(by rw [← htn,← hvn,← hon,← hln];exact h)) ?_
 refine qC (.q 0 (.q 1 (.done))) Kr ?_
 refine qK rfl rfl rfl rfl (qN rfl rfl rfl rfl rfl (b_neq _ _ _ _) ?_)
 refine kH 14 rfl (v':=.bool false) (by first | rfl | simp) ?_
 refine qS (qQ (kB rfl ?_))
 refine qF (qQ ?_)
 refine c_seqJ (α:=Nat × Nat × Nat × Nat) (fun (x_:Nat × Nat × Nat × Nat)=>match x_ with | (d,v1,v2,v3)=>True) (fun (x_:Nat × Nat × Nat × Nat)=>match x_ with | (d,v1,v2,v3)=>[(6,.pointer (some ⟨d,0,none⟩))]) (fun (x_:Nat × Nat × Nat × Nat)=>match x_ with | (d,v1,v2,v3)=>[cells d 0 [.pointer (some ⟨nq,0,none⟩),.slice (some ⟨v1,0,none⟩) tn tn,.slice (some ⟨v2,0,none⟩) ln ln,.slice (some ⟨v3,0,none⟩) on on,.slice none 0 0,.slice none 0 0,.int .i64 0],own 1 encH (some ⟨v1,0,none⟩) tn (List.replicate tn h0),own 1 encH (some ⟨v2,0,none⟩) ln (List.replicate ln h0),own 1 encH (some ⟨v3,0,none⟩) on (List.replicate on h0)]) [1] (er:=[(1,_)]) rfl [] Ts ?_ ?_
 ·
  refine kX rfl (.q 0 (.q 1 (.q 2 (.q 4 (.q 5 (.q 7 (.q 8 ((.alt (.l 3 [5,8] ((.alt (.l 6 [8] ((.l 9 [] (.q 10 ((.l 11 [] (.q 12 (.done)))))))) (.l 9 [5] ((.l 6 [] (.q 10 ((.l 11 [] (.q 12 (.done))))))))))) (.alt (.l 6 [2,8] ((.alt (.l 3 [8] ((.l 9 [] (.q 10 ((.l 11 [] (.q 12 (.done)))))))) (.l 9 [2] ((.l 3 [] (.q 10 ((.l 11 [] (.q 12 (.done))))))))))) (.l 9 [2,5] ((.alt (.l 3 [5] ((.l 6 [] (.q 10 ((.l 11 [] (.q 12 (.done)))))))) (.l 6 [2] ((.l 3 [] (.q 10 ((.l 11 [] (.q 12 (.done))))))))))))))))))))) Kr ?_
  refine qK rfl rfl rfl rfl (qL (k:=0) rfl rfl rfl rfl υ'25 rfl ζ'3 rfl ?_)
  refine qP (j:=0) rfl rfl rfl rfl α'3 Tk Az (by rfl) ?_
  refine qL (k:=3) rfl rfl rfl rfl υ'25 rfl ζ'3 rfl ?_
  refine qP (j:=3) rfl rfl rfl rfl α'3 Tk Az (by rfl) ?_
  refine qL (k:=2) rfl rfl rfl rfl υ'25 rfl ζ'3 rfl ?_
  refine qP (j:=2) rfl rfl rfl rfl α'3 Tk Az (by rfl) ?_
  refine r_alt ?_ ?_
  ·
   refine l_make (sz:=1) (enc:=encH) (len:=tn) (cap:=tn) (h0) rfl rfl rfl rfl rfl (by first | rfl | omega) (by first | rfl | omega) υ'66 τ'50 rfl rfl rfl (by decide) Om Om (by show 24*_≤_;omega) (by rfl) (kD) ?_
   intro b19
   refine qH (q:=3) rfl rfl rfl α'3 Tk Az (by rfl) ?_
   refine qH (q:=2) rfl rfl rfl α'3 Tk Az (by rfl) ?_
   refine qV ?_
   refine r_alt ?_ ?_
   ·
    refine l_make (sz:=1) (enc:=encH) (len:=ln) (cap:=ln) (h0) rfl rfl rfl rfl rfl (by first | rfl | omega) (by first | rfl | omega) υ'66 τ'50 rfl rfl rfl (by decide) Om Om (by show 24*_≤_;omega) (by rfl) (kD) ?_
    intro b22
    refine qH (q:=2) rfl rfl rfl α'3 Tk Az (by rfl) ?_
    refine qV (l_make (sz:=1) (enc:=encH) (len:=on) (cap:=on) (h0) rfl rfl rfl rfl rfl (by first | rfl | omega) (by first | rfl | omega) υ'66 τ'50 rfl rfl rfl (by decide) Om Om (by show 24*_≤_;omega) (by rfl) (kD) ?_)
    intro b25
    refine qV (cX rfl rfl rfl rfl (vs:=[_,_,_,_,_,_,_]) (kM υ'97 ω'97 (ps:=[(0,1),(1,1),(2,1),(3,1),(4,1),(5,1),(6,1)]) ⟨rfl,ζ'91,rfl,ζ'66,rfl,ζ'66,rfl,ζ'66,rfl,ζ'94,rfl,ζ'95,rfl,ζ'3,trivial⟩ rfl) ?_)
    refine sX rfl rfl rfl rfl (us:=[_,_,_,_,_,_,_]) rfl ?_
    intro b27
    refine qV (qR rfl rfl rfl rfl (qS (qW [1,6] (e':=[(1,_),(6,_)]) rfl ?_)))
    refine qQ ?_
    refine sY ((b27,b19,b22,b25)) (by trivial) (by exact ⟨rfl,rfl,trivial⟩) (by (try simp only [List.cons_append,List.nil_append]);(repeat ((with_reducible apply Z2);focus (first | (with_reducible (repeat (first | exact Z0 | apply Z1));done) | (repeat (first | exact Z0 | apply Z1)))));(repeat (first | exact Z3 | exact Takes.self | refine sS ?_)))
   refine l_make (sz:=1) (enc:=encH) (len:=on) (cap:=on) (h0) rfl rfl rfl rfl rfl (by first | rfl | omega) (by first | rfl | omega) υ'66 τ'50 rfl rfl rfl (by decide) Om Om (by show 24*_≤_;omega) (by rfl) (kD) ?_
   intro b25
   refine qH (q:=3) rfl rfl rfl α'3 Tk Az (by rfl) ?_
   refine qV (l_make (sz:=1) (enc:=encH) (len:=ln) (cap:=ln) (h0) rfl rfl rfl rfl rfl (by first | rfl | omega) (by first | rfl | omega) υ'66 τ'50 rfl rfl rfl (by decide) Om Om (by show 24*_≤_;omega) (by rfl) (kD) ?_)
   intro b22
   refine qV (cX rfl rfl rfl rfl (vs:=[_,_,_,_,_,_,_]) (kM υ'97 ω'97 (ps:=[(0,1),(1,1),(2,1),(3,1),(4,1),(5,1),(6,1)]) ⟨rfl,ζ'91,rfl,ζ'66,rfl,ζ'66,rfl,ζ'66,rfl,ζ'94,rfl,ζ'95,rfl,ζ'3,trivial⟩ rfl) ?_)
   refine sX rfl rfl rfl rfl (us:=[_,_,_,_,_,_,_]) rfl ?_
   intro b27
   refine qV (qR rfl rfl rfl rfl (qS (qW [1,6] (e':=[(1,_),(6,_)]) rfl ?_)))
   refine qQ ?_
   refine sY ((b27,b19,b22,b25)) (by trivial) (by exact ⟨rfl,rfl,trivial⟩) (by (try simp only [List.cons_append,List.nil_append]);(repeat ((with_reducible apply Z2);focus (first | (with_reducible (repeat (first | exact Z0 | apply Z1));done) | (repeat (first | exact Z0 | apply Z1)))));(repeat (first | exact Z3 | exact Takes.self | refine sS ?_)))
  refine r_alt ?_ ?_
  ·
   refine l_make (sz:=1) (enc:=encH) (len:=ln) (cap:=ln) (h0) rfl rfl rfl rfl rfl (by first | rfl | omega) (by first | rfl | omega) υ'66 τ'50 rfl rfl rfl (by decide) Om Om (by show 24*_≤_;omega) (by rfl) (kD) ?_
   intro b22
   refine qH (q:=0) rfl rfl rfl α'3 Tk Az (by rfl) ?_
   refine qH (q:=2) rfl rfl rfl α'3 Tk Az (by rfl) ?_
   refine qV ?_
   refine r_alt ?_ ?_
   ·
    refine l_make (sz:=1) (enc:=encH) (len:=tn) (cap:=tn) (h0) rfl rfl rfl rfl rfl (by first | rfl | omega) (by first | rfl | omega) υ'66 τ'50 rfl rfl rfl (by decide) Om Om (by show 24*_≤_;omega) (by rfl) (kD) ?_
    intro b19
    refine qH (q:=2) rfl rfl rfl α'3 Tk Az (by rfl) ?_
    refine qV (l_make (sz:=1) (enc:=encH) (len:=on) (cap:=on) (h0) rfl rfl rfl rfl rfl (by first | rfl | omega) (by first | rfl | omega) υ'66 τ'50 rfl rfl rfl (by decide) Om Om (by show 24*_≤_;omega) (by rfl) (kD) ?_)
    intro b25
    refine qV (cX rfl rfl rfl rfl (vs:=[_,_,_,_,_,_,_]) (kM υ'97 ω'97 (ps:=[(0,1),(1,1),(2,1),(3,1),(4,1),(5,1),(6,1)]) ⟨rfl,ζ'91,rfl,ζ'66,rfl,ζ'66,rfl,ζ'66,rfl,ζ'94,rfl,ζ'95,rfl,ζ'3,trivial⟩ rfl) ?_)
    refine sX rfl rfl rfl rfl (us:=[_,_,_,_,_,_,_]) rfl ?_
    intro b27
    refine qV (qR rfl rfl rfl rfl (qS (qW [1,6] (e':=[(1,_),(6,_)]) rfl ?_)))
    refine qQ ?_
    refine sY ((b27,b19,b22,b25)) (by trivial) (by exact ⟨rfl,rfl,trivial⟩) (by (try simp only [List.cons_append,List.nil_append]);(repeat ((with_reducible apply Z2);focus (first | (with_reducible (repeat (first | exact Z0 | apply Z1));done) | (repeat (first | exact Z0 | apply Z1)))));(repeat (first | exact Z3 | exact Takes.self | refine sS ?_)))
   refine l_make (sz:=1) (enc:=encH) (len:=on) (cap:=on) (h0) rfl rfl rfl rfl rfl (by first | rfl | omega) (by first | rfl | omega) υ'66 τ'50 rfl rfl rfl (by decide) Om Om (by show 24*_≤_;omega) (by rfl) (kD) ?_
   intro b25
   refine qH (q:=0) rfl rfl rfl α'3 Tk Az (by rfl) ?_
   refine qV (l_make (sz:=1) (enc:=encH) (len:=tn) (cap:=tn) (h0) rfl rfl rfl rfl rfl (by first | rfl | omega) (by first | rfl | omega) υ'66 τ'50 rfl rfl rfl (by decide) Om Om (by show 24*_≤_;omega) (by rfl) (kD) ?_)
   intro b19
   refine qV (cX rfl rfl rfl rfl (vs:=[_,_,_,_,_,_,_]) (kM υ'97 ω'97 (ps:=[(0,1),(1,1),(2,1),(3,1),(4,1),(5,1),(6,1)]) ⟨rfl,ζ'91,rfl,ζ'66,rfl,ζ'66,rfl,ζ'66,rfl,ζ'94,rfl,ζ'95,rfl,ζ'3,trivial⟩ rfl) ?_)
   refine sX rfl rfl rfl rfl (us:=[_,_,_,_,_,_,_]) rfl ?_
   intro b27
   refine qV (qR rfl rfl rfl rfl (qS (qW [1,6] (e':=[(1,_),(6,_)]) rfl ?_)))
   refine qQ ?_
   refine sY ((b27,b19,b22,b25)) (by trivial) (by exact ⟨rfl,rfl,trivial⟩) (by (try simp only [List.cons_append,List.nil_append]);(repeat ((with_reducible apply Z2);focus (first | (with_reducible (repeat (first | exact Z0 | apply Z1));done) | (repeat (first | exact Z0 | apply Z1)))));(repeat (first | exact Z3 | exact Takes.self | refine sS ?_)))
  refine l_make (sz:=1) (enc:=encH) (len:=on) (cap:=on) (h0) rfl rfl rfl rfl rfl (by first | rfl | omega) (by first | rfl | omega) υ'66 τ'50 rfl rfl rfl (by decide) Om Om (by show 24*_≤_;omega) (by rfl) (kD) ?_
  intro b25
  refine qH (q:=0) rfl rfl rfl α'3 Tk Az (by rfl) ?_
  refine qH (q:=3) rfl rfl rfl α'3 Tk Az (by rfl) ?_
  refine qV ?_
  refine r_alt ?_ ?_
  ·
   refine l_make (sz:=1) (enc:=encH) (len:=tn) (cap:=tn) (h0) rfl rfl rfl rfl rfl (by first | rfl | omega) (by first | rfl | omega) υ'66 τ'50 rfl rfl rfl (by decide) Om Om (by show 24*_≤_;omega) (by rfl) (kD) ?_
   intro b19
   refine qH (q:=3) rfl rfl rfl α'3 Tk Az (by rfl) ?_
   refine qV (l_make (sz:=1) (enc:=encH) (len:=ln) (cap:=ln) (h0) rfl rfl rfl rfl rfl (by first | rfl | omega) (by first | rfl | omega) υ'66 τ'50 rfl rfl rfl (by decide) Om Om (by show 24*_≤_;omega) (by rfl) (kD) ?_)
   intro b22
   refine qV (cX rfl rfl rfl rfl (vs:=[_,_,_,_,_,_,_]) (kM υ'97 ω'97 (ps:=[(0,1),(1,1),(2,1),(3,1),(4,1),(5,1),(6,1)]) ⟨rfl,ζ'91,rfl,ζ'66,rfl,ζ'66,rfl,ζ'66,rfl,ζ'94,rfl,ζ'95,rfl,ζ'3,trivial⟩ rfl) ?_)
   refine sX rfl rfl rfl rfl (us:=[_,_,_,_,_,_,_]) rfl ?_
   intro b27
   refine qV (qR rfl rfl rfl rfl (qS (qW [1,6] (e':=[(1,_),(6,_)]) rfl ?_)))
   refine qQ ?_
   refine sY ((b27,b19,b22,b25)) (by trivial) (by exact ⟨rfl,rfl,trivial⟩) (by (try simp only [List.cons_append,List.nil_append]);(repeat ((with_reducible apply Z2);focus (first | (with_reducible (repeat (first | exact Z0 | apply Z1));done) | (repeat (first | exact Z0 | apply Z1)))));(repeat (first | exact Z3 | exact Takes.self | refine sS ?_)))
  refine l_make (sz:=1) (enc:=encH) (len:=ln) (cap:=ln) (h0) rfl rfl rfl rfl rfl (by first | rfl | omega) (by first | rfl | omega) υ'66 τ'50 rfl rfl rfl (by decide) Om Om (by show 24*_≤_;omega) (by rfl) (kD) ?_
  intro b22
  refine qH (q:=0) rfl rfl rfl α'3 Tk Az (by rfl) ?_
  refine qV (l_make (sz:=1) (enc:=encH) (len:=tn) (cap:=tn) (h0) rfl rfl rfl rfl rfl (by first | rfl | omega) (by first | rfl | omega) υ'66 τ'50 rfl rfl rfl (by decide) Om Om (by show 24*_≤_;omega) (by rfl) (kD) ?_)
  intro b19
  refine qV (cX rfl rfl rfl rfl (vs:=[_,_,_,_,_,_,_]) (kM υ'97 ω'97 (ps:=[(0,1),(1,1),(2,1),(3,1),(4,1),(5,1),(6,1)]) ⟨rfl,ζ'91,rfl,ζ'66,rfl,ζ'66,rfl,ζ'66,rfl,ζ'94,rfl,ζ'95,rfl,ζ'3,trivial⟩ rfl) ?_)
  refine sX rfl rfl rfl rfl (us:=[_,_,_,_,_,_,_]) rfl ?_
  intro b27
  refine qV (qR rfl rfl rfl rfl (qS (qW [1,6] (e':=[(1,_),(6,_)]) rfl ?_)))
  refine qQ ?_
  refine sY ((b27,b19,b22,b25)) (by trivial) (by exact ⟨rfl,rfl,trivial⟩) (by (try simp only [List.cons_append,List.nil_append]);(repeat ((with_reducible apply Z2);focus (first | (with_reducible (repeat (first | exact Z0 | apply Z1));done) | (repeat (first | exact Z0 | apply Z1)))));(repeat (first | exact Z3 | exact Takes.self | refine sS ?_)))
 rintro ⟨d,v1,v2,v3⟩ -
 try simp only [List.cons_append,List.nil_append]
 refine qG (qG (qC (.q 0 (.done)) Kr ?_))
 refine qR rfl rfl rfl rfl (qS (qQ (kS (kF (fun _ h=>cJ (sz:=7) (enc:=encX) h) ?_))))
 refine cD (α:=Nat × Option Addr × Nat) (fun (x_:Nat × Option Addr × Nat)=>match x_ with | (i,xa,xc)=>i≤vn) (fun (x_:Nat × Option Addr × Nat)=>match x_ with | (i,xa,xc)=>[(7,.int .i64 ((i:Nat):Int))]) (fun (x_:Nat × Option Addr × Nat)=>match x_ with | (i,xa,xc)=>[cells d 0 [.pointer (some ⟨nq,0,none⟩),.slice (some ⟨v1,0,none⟩) tn tn,.slice (some ⟨v2,0,none⟩) ln ln,.slice (some ⟨v3,0,none⟩) on on,.slice none 0 0,.slice xa i xc,.int .i64 0],own 1 encH (some ⟨v1,0,none⟩) tn (List.replicate tn h0),own 1 encH (some ⟨v2,0,none⟩) ln (List.replicate ln h0),own 1 encH (some ⟨v3,0,none⟩) on (List.replicate on h0),own 7 encX xa xc (List.replicate i ((0,0,0,0,false,h0,-1):RVr))]) (fun (x_:Nat × Option Addr × Nat)=>match x_ with | (i,xa,xc)=>vn - i) [1,6] (er:=[(1,_),(6,_)]) rfl (0,none,0) ?_ (by exact ⟨rfl,trivial⟩) (by (try dsimp only);(try simp only [Nat.add_zero,Nat.zero_add]);(repeat ((with_reducible apply Z2);focus (first | (with_reducible (repeat (first | exact Z0 | apply Z1));done) | (repeat (first | exact Z0 | apply Z1)))));exact Z3) ?_
 · exact Nat.zero_le _
 rintro ⟨i,xa,xc⟩ hle_i
 try simp only [List.cons_append,List.nil_append]
 refine qG (qG (qC (.q 0 (.q 1 (.q 2 (.q 3 (.done))))) Kr ?_))
 refine qK rfl rfl rfl rfl (qL (k:=1) rfl rfl rfl rfl υ'25 rfl ζ'3 rfl ?_)
 refine qP (j:=1) rfl rfl rfl rfl α'3 Tk Az (by rfl) ?_
 refine qN rfl rfl rfl rfl rfl (sK _ _ _ _) ?_
 refine qS (qQ ?_)
 refine qB rfl (fun hlt=>?_) (fun hlt=>?_)
 ·
  refine qF (qQ (qG (kS (qC (.q 0 (.q 1 (.q 2 (.q 3 (.q 4 (.q 5 ((.l 6 [] ((.l 7 [] (.q 8 (.q 9 ((.l 10 [] (.done))))))))))))))) Kr ?_))))
  refine qK rfl rfl rfl rfl (qK rfl rfl rfl rfl (qX rfl rfl rfl rfl (qL (k:=5) rfl rfl rfl rfl υ'97 rfl ζ'95 rfl ?_)))
  refine qP (j:=5) rfl rfl rfl rfl α'95 Tk Az (by rfl) ?_
  refine cX rfl rfl rfl rfl (vs:=[_,_,_,_,_,_,_]) (kM υ'99 ω'99 (ps:=[(0,1),(1,1),(2,1),(3,1),(4,1),(5,1),(6,1)]) ⟨rfl,ζ'3,rfl,ζ'3,rfl,ζ'48,rfl,ζ'48,rfl,ζ'4,rfl,ζ'50,rfl,ζ'3,trivial⟩ rfl) ?_
  refine cG rfl rfl rfl rfl (cB (us:=[_,_,_,_,_,_,_]) υ'95 ζ'99 rfl ω'99 rfl rfl rfl) ?_
  intro b40
  refine qV (sV (sz:=7) (enc:=encX) (xs:=(List.replicate i ((0,0,0,0,false,h0,-1):RVr))) rfl rfl rfl rfl rfl υ'95 Try.typeInfo99 rfl rfl rfl (by decide) Tk Tk (by first | rfl | omega | (simp;done) | (simp;omega)) (ys:=[((0,0,0,0,false,h0,-1):RVr)]) (sW sC) (by rfl) (by first | rfl | omega) (encX_len) (encX_one) Om (by show _*72≤_;omega) ?_)
  intro ao41 cp41
  refine qV (qX rfl rfl rfl rfl (qL (k:=5) rfl rfl rfl rfl υ'97 rfl ζ'95 rfl ?_))
  refine kR (j:=5) rfl rfl rfl rfl ζ'95 (us:=[_]) rfl rfl rfl Tk Az (by first | decide | (simp;done) | omega) ?_
  simp only [setL,List.set]
  refine qV (qS (qW [1,6,7] (e':=[(1,_),(6,_),(7,_)]) rfl ?_))
  refine kK (qQ (qC (.q 0 (.q 1 (.q 2 (.done)))) Kr ?_))
  refine qK rfl rfl rfl rfl (qN rfl rfl rfl rfl rfl (cV _ (by exact kG Om Om)) ?_)
  refine qR rfl rfl rfl rfl (qS (qQ ?_))
  rw [← List.replicate_succ']
  refine cQ (x:=(i,xa,xc)) ((i+1,ao41,cp41)) ?_ ?_ ?_ ?_
  · try dsimp only
    omega
  · show vn - (i+1) < vn - i;omega
  · exact ⟨rfl,rfl,rfl,trivial⟩
  · (try simp only [List.cons_append,List.nil_append]);exact Tf
 refine cM (qZ (qZ (kV (qQ (qG ?_)))))
 have h00:(List.replicate tn h0)[0]?=some h0:=by rw [List.getElem?_replicate,if_pos Om]
 refine qC (.q 0 (.q 1 (.q 2 (.q 3 ((.l 4 [] (.q 5 ((.l 6 [] (.done)))))))))) Kr ?_
 refine qK rfl rfl rfl rfl (qX rfl rfl rfl rfl (qL (k:=1) rfl rfl rfl rfl υ'97 rfl ζ'66 rfl ?_))
 refine qP (j:=1) rfl rfl rfl rfl α'66 Tk Az (by rfl) ?_
 refine cG rfl rfl rfl rfl (cB (us:=[_]) υ'50 ζ'48 rfl ω'48 rfl rfl rfl) ?_
 intro b48
 refine qV (kY (sz:=0) (k:=0) (enc:=encH) (xs:=(List.replicate tn h0)) rfl rfl rfl rfl rfl υ'66 ζ'50 h00 (by first | rfl | omega) Om Tk ?_)
 intro ib49 io49 ha49 hl49 hc49
 refine kJ (j:=0) (k:=0) (q:=((some ⟨b48,0,none⟩,1,[1]):H)) (enc:=encH) (off:=io49) rfl rfl rfl rfl ζ'50 (us:=[_]) rfl rfl rfl ha49 kD h00 Tk (by first | rfl | exact (Nat.add_zero _).symm | omega) (by first | decide | exact Nat.le_of_ble_eq_true rfl) (by rfl) ?_
 refine qV (qS (qW [6] (e':=[(6,_)]) rfl ?_))
 refine qQ (qG (qC (.q 0 (.q 1 (.q 2 (.done)))) Kr ?_))
 refine qK rfl rfl rfl rfl (qR rfl rfl rfl rfl (qR rfl rfl rfl rfl (qS (qQ (qJ ?_)))))
 obtain rfl:i=vn:=by omega
 refine cK (A:=cells b48 0 [.int .u64 1]) Tk ?_
 refine kF (Γ':=owA 1 encU ((some ⟨b48,0,none⟩,1,[1]):H)::_) (fun _ h=>own_mk (b:=b48) (off:=0) (cap:=1) (sz:=1) (enc:=encU) (xs:=[1]) (sp:=[]) (by decide) rfl h) ?_
 refine rS (f:=owA 1 encU) (L:=M) (x:=((some ⟨b48,0,none⟩,1,[1]):H)) Ts ?_
 refine kF (fun _ h=>cJ (sz:=3) (enc:=encR) h) ?_
 refine rf_fold (b:=d) (M:=M++[((some ⟨b48,0,none⟩,1,[1]):H)]) (fNew th va vo lk pl) (rNew th va vo lk ((some ⟨b48,0,none⟩,1,[1]):H)) (pa:=nqp) (pc:=nqc) (cb:=nq) Ts (by rw [rNew,htn,hvn,hon,hln];rfl) (by simp) (by simp) (by simp) (by rfl) (by simp) rfl rfl (rel_new hok rfl) ⟨fun h hm=>?_,fun h hm=>.inl (List.mem_replicate.1 hm).2,fun h hm=>.inl (List.mem_replicate.1 hm).2,fun q hq=>(by cases hq),fun q hq=>.inl (by rw [(List.mem_replicate.1 hq).2])⟩ ?_
 · rcases List.mem_or_eq_of_mem_set hm with hm | rfl
   · exact .inl (List.mem_replicate.1 hm).2
   · exact .inr ⟨by simp,fun h=>(by cases h),fun _=>⟨_,_,rfl⟩⟩
 refine ret2 rfl rfl rfl ((d,(nqp,nqc),((some ⟨b48,0,none⟩,1,[1]):H))) (by first | rfl | (first | rfl | (congr 1;done) | (congr 1 <;> first | rfl | omega | (simp;done) | (simp;omega)))) (by rfl) ?_
 exact Tf
theorem rnewbad_spec (th va vo lk:Int) (pl:List Int) (ao:Option Addr) (n c:Nat) (A:HProp) (hr:RdS A ao (pl.flatMap encZ)) (hn:pl.length=n) (hb:n≤4000000) (hok:¬ OkS th va vo lk pl):Spec Try.prog 10 [.agg #[.int .i64 th,.int .i64 va,.int .i64 vo,.int .i64 lk,.slice ao n c]] [A] (fun (_:Unit)=>.tuple #[.pointer none,.int .i64 5]) (fun _=>True) (fun _=>[A]):=by
 refine kP (n:=51) Try.func10 rfl rfl rfl ?_
 intro Γ w0
 simp only [argE,List.cons_append,List.nil_append,Nat.zero_add,Nat.reduceAdd]
 refine qG (qC ((.l 0 [] (.q 1 (.q 2 (.done))))) Kr ?_)
 refine sX rfl rfl rfl rfl (us:=[_,_,_,_,_]) rfl ?_
 intro b1
 refine qV (qR rfl rfl rfl rfl (qR rfl rfl rfl rfl (qS (qQ (qG (qC (.q 0 ((.l 1 [] (.q 2 (.q 3 (.q 4 (.q 5 (.q 6 (.done))))))))) Kr ?_))))))
 refine kN rfl rfl rfl rfl α'25 ζ'25 Tk 0 (us:=[_,_,_,_,_]) Az rfl rfl ?_
 have sp_2:=Fe.rnewbad_spec th va vo lk pl ao n c A (hr) Ln Om hok
 refine qM rfl rfl rfl rfl rfl rfl Try.call31 (sp_2) Ts ?_
 rintro ⟨⟩ -
 try simp only [List.cons_append,List.nil_append]
 refine qV (qK rfl rfl rfl rfl (kW rfl rfl rfl rfl rfl (kW rfl rfl rfl rfl rfl (qR rfl rfl rfl rfl (qR rfl rfl rfl rfl (qS (qW [1,4,5] (e':=[(1,_),(4,_),(5,_)]) rfl ?_)))))))
 refine qQ (qG (qG (qC (.q 0 (.q 1 (.done))) Kr ?_)))
 refine qK rfl rfl rfl rfl (qN rfl rfl rfl rfl rfl (b_neq _ _ _ _) ?_)
 refine kH 14 rfl (v':=.bool true) (by first | rfl | simp) ?_
 refine qS (qQ (cN rfl ?_))
 refine qG (qC (.q 0 (.q 1 (.q 2 (.done)))) Kr ?_)
 refine qK rfl rfl rfl rfl (qR rfl rfl rfl rfl (qR rfl rfl rfl rfl (qS (qW [2,3] (e':=[(2,_),(3,_)]) rfl ?_))))
 refine qQ (qJ (qD (ret2 rfl rfl rfl (()) (by first | rfl | (first | rfl | (congr 1;done) | (congr 1 <;> first | rfl | omega | (simp;done) | (simp;omega)))) (by trivial) ?_)))
 exact Tf
end Go.Ab.Fr
set_option linter.unusedVariables false
set_option linter.unusedSimpArgs false
set_option maxRecDepth 100000
namespace Go.Ab.Fr
open Go Go.Proofs Go.Ab Go.Ab.Fe Go.Ab.Vc Go.Ab.Dj Go.Ab.Fa
theorem epR_zero (t:Nat):epR t 0=0:=if_pos rfl
theorem epR_pos {t:Nat} {c:Int} (h:c≠0):epR t c=t*281474976710656+c.toNat:=if_neg h
theorem epR_eq {rt t:Nat} {rc:Int} {l:List Int} (h0:0≤rc∧rc≤maxC) (h1:1≤l.getD t 0) (h2:l.getD t 0≤maxC):epR rt rc=pkN t l↔rc=l.getD t 0∧rt=t:=by
  simp only [maxC] at h0 h2
  unfold pkN
  by_cases hz:rc=0
  · subst hz
    rw [epR_zero]
    constructor
    · intro h;omega
    · intro h;omega
  · rw [epR_pos hz]
    constructor
    · intro h;omega
    · rintro ⟨rfl,rfl⟩;rfl
theorem epR_T {t:Nat} (ht:t < 65535) {c:Int} (h:c≠0) (h0:0≤c∧c≤maxC):epT (epR t c)=t:=by
  simp only [maxC] at h0
  rw [epR_pos h];unfold epT
  split <;> omega
theorem epR_C {t:Nat} (ht:t < 65535) {c:Int} (h:c≠0) (h0:0≤c∧c≤maxC):(epC (epR t c):Int)=c:=by
  simp only [maxC] at h0
  rw [epR_pos h];unfold epC
  split <;> omega
theorem epR_has {t:Nat} (ht:t < 65535) {c:Int} {l:List Int} (hl:CV l) (h0:0≤c∧c≤maxC):hasE (epR t c) l↔c≤l.getD t 0:=by
  by_cases h:c=0
  · subst h
    rw [epR_zero]
    have:=(g_rng hl.rng (by decide) t).1
    exact ⟨fun _=>this,fun _=>has_zero hl⟩
  · unfold hasE
    rw [epR_T ht h h0,epR_C ht h h0]
/-- A new vector is laid into the pool. -/
theorem s_pool {w0:World} {ds:List Deferred} {n:Nat} {e:Env} {Γ Γ':List HProp} {X:Act→World→Prop} {ao:Option Addr} {cap:Nat} {l:List Int} {M:List H} (tk:Takes Γ [own 1 encU ao cap l,bigS (owA 1 encU) M] Γ')
    (k:InP (M++[(ao,cap,l)]) (ao,cap,l)→Le (St w0 ds n e (bigS (owA 1 encU) (M++[(ao,cap,l)])::Γ')) X):Le (St w0 ds n e Γ) X:=fun a w s=>by
  have s0:Sat (own 1 encU ao cap l::bigS (owA 1 encU) M::Γ') (lh w):=tk _ s.heap
  obtain ⟨hc,f2,f3⟩:=own_le s0
  have s1:Sat (bigS (owA 1 encU) (M++[(ao,cap,l)])::Γ') (lh w):=big_push (f:=owA 1 encU) (x:=(ao,cap,l)) s0.swap
  exact k (.inr ⟨by simp,fun h=>(f2 h).1,f3⟩) a w ⟨s.defers,s.size,s.env,s1,s.amb⟩
end Go.Ab.Fr
set_option linter.unusedVariables false
set_option linter.unusedSimpArgs false
set_option maxRecDepth 100000
namespace Go.Ab.Fr
open Go Go.Proofs Go.Ab Go.Ab.Fe Go.Ab.Vc Go.Ab.Dj Go.Ab.Fa
theorem rflag_spec (b xb:Nat) (x0 x1 x2 x3 x4 x5:Value) (fl j:Int):Spec Try.prog 78 [.pointer (some ⟨b,0,none⟩),.pointer (some ⟨xb,0,none⟩),.int .i64 j] [cells xb 0 [x0,x1,x2,x3,x4,x5,.int .i64 fl]] (fun (_:Unit)=>.tuple #[]) (fun _=>True) (fun _=>[cells xb 0 [x0,x1,x2,x3,x4,x5,.int .i64 (flN fl j)]]):=by
 refine kP (n:=15) Try.func78 rfl rfl rfl ?_
 intro Γ w0
 simp only [argE,List.cons_append,List.nil_append,Nat.zero_add,Nat.reduceAdd]
 refine qG (qC (.q 0 (.q 1 (.q 2 (.q 3 (.q 4 (.done)))))) Kr ?_)
 refine qK rfl rfl rfl rfl (qX rfl rfl rfl rfl (qL (k:=6) rfl rfl rfl rfl υ'99 rfl ζ'3 rfl ?_))
 refine qP (j:=6) rfl rfl rfl rfl α'3 Tk Az (by rfl) ?_
 refine qN rfl rfl rfl rfl rfl (sK _ _ _ _) ?_
 refine qS (qW [1,2,10] (e':=[(1,_),(2,_),(10,_)]) rfl ?_)
 refine qQ ?_
 refine qB rfl (fun hf=>?_) (fun hf=>?_)
 ·
  refine qC (.q 0 (.q 1 (.q 2 (.q 3 ((.l 4 [] (.done))))))) Kr ?_
  refine qK rfl rfl rfl rfl (qK rfl rfl rfl rfl (qX rfl rfl rfl rfl (qL (k:=6) rfl rfl rfl rfl υ'99 rfl ζ'3 rfl ?_)))
  refine kR (j:=6) rfl rfl rfl rfl ζ'3 (us:=[_]) rfl rfl rfl Tk Az (by first | decide | (simp;done) | omega) ?_
  simp only [setL,List.set]
  refine qV (qS (qW [] (e':=[]) rfl ?_))
  refine sR ?_
  rw [show flN fl j=j from by rw [flN,if_pos hf]]
  refine rR rfl (()) (by first | rfl | (first | rfl | (congr 1;done) | (congr 1 <;> first | rfl | omega | (simp;done) | (simp;omega)))) (by trivial) ?_
  exact Tf
 refine qF (sR ?_)
 rw [show flN fl j=fl from by rw [flN,if_neg hf]]
 refine rR rfl (()) (by first | rfl | (first | rfl | (congr 1;done) | (congr 1 <;> first | rfl | omega | (simp;done) | (simp;omega)))) (by trivial) ?_
 exact Tf
theorem more_spec (b n Vc t:Nat) (c0 c2 c3 c4 c5 c6:Value) (Va:Option Addr) (V M:List H) (h:H) (hn:V.length=n) (hh:V[t]?=some h) (ho:OkV h.2.2) (hP:InP M h) (ht:t < 65535) (hc:h.2.2.getD t 0 < maxC):Spec Try.prog 44 [.pointer (some ⟨b,0,none⟩),.int .i64 ((t:Nat):Int)] [cells b 0 [c0,.slice Va n Vc,c2,c3,c4,c5,c6],own 1 encH Va Vc V,bigS (owA 1 encU) M] (fun (r:Option Addr × Nat)=>.tuple #[]) (fun r=>InP (M++[(r.1,r.2,(withL h.2.2 t (h.2.2.getD t 0+1)))]) (r.1,r.2,(withL h.2.2 t (h.2.2.getD t 0+1)))) (fun r=>[cells b 0 [c0,.slice Va n Vc,c2,c3,c4,c5,c6],own 1 encH Va Vc (V.set t (r.1,r.2,(withL h.2.2 t (h.2.2.getD t 0+1)))),bigS (owA 1 encU) (M++[(r.1,r.2,(withL h.2.2 t (h.2.2.getD t 0+1)))])]):=by
 refine kP (n:=29) Try.func44 rfl rfl rfl ?_
 intro Γ w0
 simp only [argE,List.cons_append,List.nil_append,Nat.zero_add,Nat.reduceAdd]
 have hil:=(List.getElem?_eq_some_iff.1 hh).1
 have hol:=ho.1
 have hog:=ok_g ho t
 simp only [maxC] at hc hog
 refine kX rfl (.q 0 (.q 1 (.q 2 (.q 3 (.q 4 (.q 5 (.q 6 (.q 7 (.q 8 (.q 9 (.q 10 (.q 11 (.q 12 (.q 13 (.q 14 (.q 15 (.q 16 (.q 17 (.q 18 (.q 19 (.q 20 ((.l 21 [3,8,11] (.q 22 ((.l 23 [3] (.q 24 ((.l 25 [] (.done)))))))))))))))))))))))))))))) Kr ?_
 refine qK rfl rfl rfl rfl (qX rfl rfl rfl rfl (qL (k:=1) rfl rfl rfl rfl υ'97 rfl ζ'66 rfl ?_))
 refine qP (j:=1) rfl rfl rfl rfl α'66 Tk Az (by rfl) ?_
 refine qK rfl rfl rfl rfl (qK rfl rfl rfl rfl (qX rfl rfl rfl rfl (qL (k:=1) rfl rfl rfl rfl υ'97 rfl ζ'66 rfl ?_)))
 refine qP (j:=1) rfl rfl rfl rfl α'66 Tk Az (by rfl) ?_
 refine qK rfl rfl rfl rfl (kY (sz:=0) (k:=t) (enc:=encH) (xs:=V) rfl rfl rfl rfl rfl υ'66 ζ'50 hh (by first | rfl | omega) Om Tk ?_)
 intro ib14 io14 ha14 hl14 hc14
 refine kQ (v:=(.slice h.1 h.2.2.length h.2.1)) (j:=0) (k':=t) (enc:=encH) (off:=io14) rfl rfl rfl rfl α'50 ha14 kD hh Tk (by first | rfl | exact (Nat.add_zero _).symm | omega) (by rfl) ?_
 refine qK rfl rfl rfl rfl (qK rfl rfl rfl rfl (qX rfl rfl rfl rfl (qL (k:=1) rfl rfl rfl rfl υ'97 rfl ζ'66 rfl ?_)))
 refine qP (j:=1) rfl rfl rfl rfl α'66 Tk Az (by rfl) ?_
 refine qK rfl rfl rfl rfl (kY (sz:=0) (k:=t) (enc:=encH) (xs:=V) rfl rfl rfl rfl rfl υ'66 ζ'50 hh (by first | rfl | omega) Om Tk ?_)
 intro ib22 io22 ha22 hl22 hc22
 refine kQ (v:=(.slice h.1 h.2.2.length h.2.1)) (j:=0) (k':=t) (enc:=encH) (off:=io22) rfl rfl rfl rfl α'50 ha22 kD hh Tk (by first | rfl | exact (Nat.add_zero _).symm | omega) (by rfl) ?_
 refine qK rfl rfl rfl rfl ?_
 have sp_1:=Fr.at_spec h.2.2 h.1 h.2.2.length h.2.1 (bigS (owA 1 encU) M) (inp_rds hP) Ln Om t
 refine qM rfl rfl rfl rfl rfl rfl κ'35 (sp_1) Ts ?_
 rintro ⟨⟩ -
 try simp only [List.cons_append,List.nil_append]
 refine qH (q:=1) rfl rfl rfl α'66 Tk Az (by rfl) ?_
 refine qH (q:=1) rfl rfl rfl α'66 Tk Az (by rfl) ?_
 refine ag_load_O (v:=(.slice h.1 h.2.2.length h.2.1)) (j:=0) (k':=t) (enc:=encH) (off:=io14) rfl rfl rfl α'50 ha14 kD hh Tk (by first | rfl | exact (Nat.add_zero _).symm | omega) (by rfl) ?_
 refine qV (qN rfl rfl rfl rfl rfl (cV _ (by exact fits_u64 Om Om)) ?_)
 have sp_2:=Fr.with_spec h.2.2 h.1 h.2.2.length h.2.1 (bigS (owA 1 encU) M) (inp_rds hP) Ln Om t ((h.2.2.getD t 0)+1) Om
 refine qM rfl rfl rfl rfl rfl rfl κ'42 (sp_2) Ts ?_
 rintro ⟨qa,qc⟩ -
 try simp only [List.cons_append,List.nil_append]
 refine qH (q:=1) rfl rfl rfl α'66 Tk Az (by rfl) ?_
 refine qV (s_pool (ao:=qa) (cap:=qc) (l:=(withL h.2.2 t (h.2.2.getD t 0+1))) (M:=M) Ts fun hq=>?_)
 refine kY (sz:=0) (k:=t) (enc:=encH) (xs:=V) rfl rfl rfl rfl rfl υ'66 ζ'50 hh (by first | rfl | omega) Om Tk ?_
 intro ib28 io28 ha28 hl28 hc28
 refine kJ (j:=0) (k:=t) (q:=((qa,qc,(withL h.2.2 t (h.2.2.getD t 0+1))):H)) (enc:=encH) (off:=io28) rfl rfl rfl rfl ζ'50 (us:=[_]) rfl rfl rfl ha28 kD hh Tk (by first | rfl | exact (Nat.add_zero _).symm | omega) (by first | decide | exact Nat.le_of_ble_eq_true rfl) (by rfl) ?_
 refine qV (qS (qW [] (e':=[]) rfl ?_))
 refine sR ?_
 refine rR rfl ((qa,qc)) (by first | rfl | (first | rfl | (congr 1;done) | (congr 1 <;> first | rfl | omega | (simp;done) | (simp;omega)))) (by trivial) ?_
 exact Tf
theorem round_yes (b n Rc:Nat) (c0 c1 c2 c3 c5 c6:Value) (Ra:Option Addr) (R:List RRd) (o k:Int) (hn:R.length=n) (hnb:n≤4000000) (hex:∃ (j:Nat) (q:RRd),R[j]?=some q∧q.1=o∧q.2.1=k):Spec Try.prog 43 [.pointer (some ⟨b,0,none⟩),.int .i64 o,.int .i64 k] [cells b 0 [c0,c1,c2,c3,.slice Ra n Rc,c5,c6],own 3 encR Ra Rc R] (fun (r:Nat)=>.int .i64 ((r:Nat):Int)) (fun r=>∃ q,R[r]?=some q∧q.1=o∧q.2.1=k) (fun r=>[cells b 0 [c0,c1,c2,c3,.slice Ra n Rc,c5,c6],own 3 encR Ra Rc R]):=by
 refine kP (n:=58) Try.func43 rfl rfl rfl ?_
 intro Γ w0
 simp only [argE,List.cons_append,List.nil_append,Nat.zero_add,Nat.reduceAdd]
 refine qG (qC (.q 0 (.done)) Kr ?_)
 refine qR rfl rfl rfl rfl (qS (qQ (qG (qG (qC (.q 0 (.done)) Kr ?_)))))
 refine qR rfl rfl rfl rfl (qS (qQ (kS ?_)))
 refine cD (α:=Nat) (fun (i:Nat)=>i≤n∧(∀ j:Nat,j < i→∀ q,R[j]?=some q→¬ (q.1=o∧q.2.1=k))) (fun (i:Nat)=>[(7,.int .i64 ((i:Nat):Int))]) (fun (i:Nat)=>[]) (fun (i:Nat)=>n - i) [0,1,2] (er:=[(0,_),(1,_),(2,_)]) rfl (0) ?_ (by exact ⟨rfl,trivial⟩) (by (try dsimp only);(try simp only [Nat.add_zero,Nat.zero_add]);(repeat ((with_reducible apply Z2);focus (first | (with_reducible (repeat (first | exact Z0 | apply Z1));done) | (repeat (first | exact Z0 | apply Z1)))));exact Z3) ?_
 · exact ⟨Nat.zero_le _,fun j h=>by omega⟩
 rintro i ⟨hle_i,hI⟩
 try simp only [List.cons_append,List.nil_append]
 refine qG (qG (qC (.q 0 (.q 1 (.q 2 (.q 3 (.q 4 (.q 5 (.q 6 (.done)))))))) Kr ?_))
 refine qK rfl rfl rfl rfl (qK rfl rfl rfl rfl (qX rfl rfl rfl rfl (qL (k:=4) rfl rfl rfl rfl υ'97 rfl ζ'94 rfl ?_)))
 refine qP (j:=4) rfl rfl rfl rfl α'94 Tk Az (by rfl) ?_
 refine cH rfl rfl rfl rfl υ'94 ?_
 refine qN rfl rfl rfl rfl rfl (sK _ _ _ _) ?_
 refine qS (qW [0,1,2,7,14] (e':=[(0,_),(1,_),(2,_),(7,_),(14,_)]) rfl ?_)
 refine qQ ?_
 refine qB rfl (fun hlt=>?_) (fun hlt=>by exfalso;obtain ⟨j0,q0,hj0,e1,e2⟩:=hex;exact hI j0 (by have:=(List.getElem?_eq_some_iff.1 hj0).1;omega) q0 hj0 ⟨e1,e2⟩)
 refine qF (qQ (qG (kS (qG ?_))))
 obtain ⟨p,hp⟩:=cP (l:=R) (i:=i) Om
 refine qC (.q 0 (.q 1 (.q 2 (.q 3 (.q 4 (.q 5 (.q 6 (.q 7 (.q 8 (.q 9 (.q 10 (.q 11 (.q 12 (.q 13 (.q 14 (.q 15 (.q 16 (.q 17 (.q 18 (.q 19 (.q 20 (.q 21 (.done))))))))))))))))))))))) Kr ?_
 refine qK rfl rfl rfl rfl (qX rfl rfl rfl rfl (qL (k:=4) rfl rfl rfl rfl υ'97 rfl ζ'94 rfl ?_))
 refine qP (j:=4) rfl rfl rfl rfl α'94 Tk Az (by rfl) ?_
 refine qK rfl rfl rfl rfl (kY (sz:=2) (k:=i) (enc:=encR) (xs:=R) rfl rfl rfl rfl rfl υ'94 ζ'115 hp (by first | rfl | omega) Om Tk ?_)
 intro ib22 io22 ha22 hl22 hc22
 refine qL (k:=0) rfl rfl rfl rfl υ'115 rfl ζ'3 rfl ?_
 refine kQ (v:=(.int .i64 p.1)) (j:=0) (k':=i) (enc:=encR) (off:=io22) rfl rfl rfl rfl α'3 ha22 encR_len hp Tk (by first | rfl | exact (Nat.add_zero _).symm | omega) (by rfl) ?_
 refine qK rfl rfl rfl rfl (qN rfl rfl rfl rfl rfl (cS _ _ _ _) ?_)
 refine qK rfl rfl rfl rfl ?_
 refine cL 27 rfl (fun hne=>?_) (fun hne=>?_)
 ·
  refine qK rfl rfl rfl rfl (qX rfl rfl rfl rfl (qL (k:=4) rfl rfl rfl rfl υ'97 rfl ζ'94 rfl ?_))
  refine qP (j:=4) rfl rfl rfl rfl α'94 Tk Az (by rfl) ?_
  refine qK rfl rfl rfl rfl (kY (sz:=2) (k:=i) (enc:=encR) (xs:=R) rfl rfl rfl rfl rfl υ'94 ζ'115 hp (by first | rfl | omega) Om Tk ?_)
  intro ib33 io33 ha33 hl33 hc33
  refine qL (k:=1) rfl rfl rfl rfl υ'115 rfl ζ'3 rfl ?_
  refine kQ (v:=(.int .i64 p.2.1)) (j:=1) (k':=i) (enc:=encR) (off:=io33) rfl rfl rfl rfl α'3 ha33 encR_len hp Tk (by first | rfl | exact (Nat.add_zero _).symm | omega) (by rfl) ?_
  refine qK rfl rfl rfl rfl (qN rfl rfl rfl rfl rfl (cS _ _ _ _) ?_)
  refine kZ rfl rfl rfl rfl rfl (qS (qW [0,1,2,7,28,29,30,31,32,33,34,35,36,37,38] (e':=[(0,_),(1,_),(2,_),(7,_),(28,_),(29,_),(30,_),(31,_),(32,_),(33,_),(34,_),(35,_),(36,_),(37,_),(38,_)]) rfl ?_))
  refine qQ ?_
  refine qB rfl (fun hne2=>?_) (fun hne2=>?_)
  ·
   refine qG (qC (.q 0 (.q 1 (.done))) Kr ?_)
   refine qK rfl rfl rfl rfl (qR rfl rfl rfl rfl (qS (qW [6] (e':=[(6,_)]) rfl ?_)))
   refine qQ (qJ (cC (qD (qD (cC (qD (cR rfl rfl (i) (by first | rfl | (first | rfl | (congr 1;done) | (congr 1 <;> first | rfl | omega | (simp;done) | (simp;omega)))) (by exact ⟨p,hp,hne,hne2⟩) ?_)))))))
   exact Tf
  refine qF (kK (qQ (qC (.q 0 (.q 1 (.q 2 (.done)))) Kr ?_)))
  refine qK rfl rfl rfl rfl (qN rfl rfl rfl rfl rfl (cV _ (by exact kG Om Om)) ?_)
  refine qR rfl rfl rfl rfl (qS (qQ ?_))
  refine cQ (x:=i) (i+1) ?_ ?_ ?_ ?_
  · exact ⟨by omega,fun j hj q hq=>(by
        by_cases e:j=i
        · subst e;rw [hp] at hq;cases hq;intro h9;first | exact hne h9.1 | exact hne2 h9.2
        · exact hI j Om q hq)⟩
  · show n - (i+1) < n - i;omega
  · exact ⟨rfl,rfl,rfl,rfl,trivial⟩
  · (try simp only [List.cons_append,List.nil_append]);exact Tf
 refine qY rfl rfl rfl rfl (qY rfl rfl rfl rfl (qY rfl rfl rfl rfl (qY rfl rfl rfl rfl (qY rfl rfl rfl rfl (qY rfl rfl rfl rfl (qY rfl rfl rfl rfl (qY rfl rfl rfl rfl (qY rfl rfl rfl rfl ?_))))))))
 refine qY rfl rfl rfl rfl (kC rfl rfl rfl rfl rfl (qS (qW [0,1,2,7,28,29,30,31,32,33,34,35,36,37,38] (e':=[(0,_),(1,_),(2,_),(7,_),(28,_),(29,_),(30,_),(31,_),(32,_),(33,_),(34,_),(35,_),(36,_),(37,_),(38,_)]) rfl ?_)))
 refine qQ (kB rfl ?_)
 refine qF (kK (qQ (qC (.q 0 (.q 1 (.q 2 (.done)))) Kr ?_)))
 refine qK rfl rfl rfl rfl (qN rfl rfl rfl rfl rfl (cV _ (by exact kG Om Om)) ?_)
 refine qR rfl rfl rfl rfl (qS (qQ ?_))
 refine cQ (x:=i) (i+1) ?_ ?_ ?_ ?_
 · exact ⟨by omega,fun j hj q hq=>(by
       by_cases e:j=i
       · subst e;rw [hp] at hq;cases hq;intro h9;first | exact hne h9.1 | exact hne2 h9.2
       · exact hI j Om q hq)⟩
 · show n - (i+1) < n - i;omega
 · exact ⟨rfl,rfl,rfl,rfl,trivial⟩
 · (try simp only [List.cons_append,List.nil_append]);exact Tf
theorem round_no (b n Rc:Nat) (c0 c1 c2 c3 c5 c6:Value) (Ra:Option Addr) (R:List RRd) (o k:Int) (hn:R.length=n) (hnb:n≤4000000) (hno:¬ ∃ (j:Nat) (q:RRd),R[j]?=some q∧q.1=o∧q.2.1=k):Spec Try.prog 43 [.pointer (some ⟨b,0,none⟩),.int .i64 o,.int .i64 k] [cells b 0 [c0,c1,c2,c3,.slice Ra n Rc,c5,c6],own 3 encR Ra Rc R] (fun (r:Option Addr × Nat)=>.int .i64 ((n:Nat):Int)) (fun r=>True) (fun r=>[cells b 0 [c0,c1,c2,c3,.slice r.1 (n+1) r.2,c5,c6],own 3 encR r.1 r.2 (R++[((o,k,h0):RRd)])]):=by
 refine kP (n:=58) Try.func43 rfl rfl rfl ?_
 intro Γ w0
 simp only [argE,List.cons_append,List.nil_append,Nat.zero_add,Nat.reduceAdd]
 refine qG (qC (.q 0 (.done)) Kr ?_)
 refine qR rfl rfl rfl rfl (qS (qQ (qG (qG (qC (.q 0 (.done)) Kr ?_)))))
 refine qR rfl rfl rfl rfl (qS (qQ (kS ?_)))
 refine cD (α:=Nat) (fun (i:Nat)=>i≤n) (fun (i:Nat)=>[(7,.int .i64 ((i:Nat):Int))]) (fun (i:Nat)=>[]) (fun (i:Nat)=>n - i) [0,1,2] (er:=[(0,_),(1,_),(2,_)]) rfl (0) ?_ (by exact ⟨rfl,trivial⟩) (by (try dsimp only);(try simp only [Nat.add_zero,Nat.zero_add]);(repeat ((with_reducible apply Z2);focus (first | (with_reducible (repeat (first | exact Z0 | apply Z1));done) | (repeat (first | exact Z0 | apply Z1)))));exact Z3) ?_
 · exact Nat.zero_le _
 rintro i hle_i
 try simp only [List.cons_append,List.nil_append]
 refine qG (qG (qC (.q 0 (.q 1 (.q 2 (.q 3 (.q 4 (.q 5 (.q 6 (.done)))))))) Kr ?_))
 refine qK rfl rfl rfl rfl (qK rfl rfl rfl rfl (qX rfl rfl rfl rfl (qL (k:=4) rfl rfl rfl rfl υ'97 rfl ζ'94 rfl ?_)))
 refine qP (j:=4) rfl rfl rfl rfl α'94 Tk Az (by rfl) ?_
 refine cH rfl rfl rfl rfl υ'94 ?_
 refine qN rfl rfl rfl rfl rfl (sK _ _ _ _) ?_
 refine qS (qW [0,1,2,7,14] (e':=[(0,_),(1,_),(2,_),(7,_),(14,_)]) rfl ?_)
 refine qQ ?_
 refine qB rfl (fun hlt=>?_) (fun hlt=>?_)
 ·
  refine qF (qQ (qG (kS (qG ?_))))
  obtain ⟨p,hp⟩:=cP (l:=R) (i:=i) Om
  refine qC (.q 0 (.q 1 (.q 2 (.q 3 (.q 4 (.q 5 (.q 6 (.q 7 (.q 8 (.q 9 (.q 10 (.q 11 (.q 12 (.q 13 (.q 14 (.q 15 (.q 16 (.q 17 (.q 18 (.q 19 (.q 20 (.q 21 (.done))))))))))))))))))))))) Kr ?_
  refine qK rfl rfl rfl rfl (qX rfl rfl rfl rfl (qL (k:=4) rfl rfl rfl rfl υ'97 rfl ζ'94 rfl ?_))
  refine qP (j:=4) rfl rfl rfl rfl α'94 Tk Az (by rfl) ?_
  refine qK rfl rfl rfl rfl (kY (sz:=2) (k:=i) (enc:=encR) (xs:=R) rfl rfl rfl rfl rfl υ'94 ζ'115 hp (by first | rfl | omega) Om Tk ?_)
  intro ib22 io22 ha22 hl22 hc22
  refine qL (k:=0) rfl rfl rfl rfl υ'115 rfl ζ'3 rfl ?_
  refine kQ (v:=(.int .i64 p.1)) (j:=0) (k':=i) (enc:=encR) (off:=io22) rfl rfl rfl rfl α'3 ha22 encR_len hp Tk (by first | rfl | exact (Nat.add_zero _).symm | omega) (by rfl) ?_
  refine qK rfl rfl rfl rfl (qN rfl rfl rfl rfl rfl (cS _ _ _ _) ?_)
  refine qK rfl rfl rfl rfl ?_
  refine cL 27 rfl (fun hne=>?_) (fun hne=>?_)
  ·
   refine qK rfl rfl rfl rfl (qX rfl rfl rfl rfl (qL (k:=4) rfl rfl rfl rfl υ'97 rfl ζ'94 rfl ?_))
   refine qP (j:=4) rfl rfl rfl rfl α'94 Tk Az (by rfl) ?_
   refine qK rfl rfl rfl rfl (kY (sz:=2) (k:=i) (enc:=encR) (xs:=R) rfl rfl rfl rfl rfl υ'94 ζ'115 hp (by first | rfl | omega) Om Tk ?_)
   intro ib33 io33 ha33 hl33 hc33
   refine qL (k:=1) rfl rfl rfl rfl υ'115 rfl ζ'3 rfl ?_
   refine kQ (v:=(.int .i64 p.2.1)) (j:=1) (k':=i) (enc:=encR) (off:=io33) rfl rfl rfl rfl α'3 ha33 encR_len hp Tk (by first | rfl | exact (Nat.add_zero _).symm | omega) (by rfl) ?_
   refine qK rfl rfl rfl rfl (qN rfl rfl rfl rfl rfl (cS _ _ _ _) ?_)
   refine kZ rfl rfl rfl rfl rfl (qS (qW [0,1,2,7,28,29,30,31,32,33,34,35,36,37,38] (e':=[(0,_),(1,_),(2,_),(7,_),(28,_),(29,_),(30,_),(31,_),(32,_),(33,_),(34,_),(35,_),(36,_),(37,_),(38,_)]) rfl ?_))
   refine qQ ?_
   refine qB rfl (fun hg=>by exfalso;exact hno ⟨i,p,hp,hne,hg⟩) (fun hg=>?_)
   refine qF (kK (qQ (qC (.q 0 (.q 1 (.q 2 (.done)))) Kr ?_)))
   refine qK rfl rfl rfl rfl (qN rfl rfl rfl rfl rfl (cV _ (by exact kG Om Om)) ?_)
   refine qR rfl rfl rfl rfl (qS (qQ ?_))
   refine cQ (x:=i) (i+1) ?_ ?_ ?_ ?_
   · exact by show i+1≤n;omega
   · show n - (i+1) < n - i;omega
   · exact ⟨rfl,rfl,rfl,rfl,trivial⟩
   · (try simp only [List.cons_append,List.nil_append]);exact Tf
  refine qY rfl rfl rfl rfl (qY rfl rfl rfl rfl (qY rfl rfl rfl rfl (qY rfl rfl rfl rfl (qY rfl rfl rfl rfl (qY rfl rfl rfl rfl (qY rfl rfl rfl rfl (qY rfl rfl rfl rfl (qY rfl rfl rfl rfl ?_))))))))
  refine qY rfl rfl rfl rfl (kC rfl rfl rfl rfl rfl (qS (qW [0,1,2,7,28,29,30,31,32,33,34,35,36,37,38] (e':=[(0,_),(1,_),(2,_),(7,_),(28,_),(29,_),(30,_),(31,_),(32,_),(33,_),(34,_),(35,_),(36,_),(37,_),(38,_)]) rfl ?_)))
  refine qQ (kB rfl ?_)
  refine qF (kK (qQ (qC (.q 0 (.q 1 (.q 2 (.done)))) Kr ?_)))
  refine qK rfl rfl rfl rfl (qN rfl rfl rfl rfl rfl (cV _ (by exact kG Om Om)) ?_)
  refine qR rfl rfl rfl rfl (qS (qQ ?_))
  refine cQ (x:=i) (i+1) ?_ ?_ ?_ ?_
  · exact by show i+1≤n;omega
  · show n - (i+1) < n - i;omega
  · exact ⟨rfl,rfl,rfl,rfl,trivial⟩
  · (try simp only [List.cons_append,List.nil_append]);exact Tf
 refine cM (qZ (qZ (kV (qQ (qG (qC (.q 0 (.q 1 (.q 2 (.q 3 (.q 4 (.q 5 (.q 6 (.q 7 ((.l 8 [] ((.l 9 [] (.q 10 (.q 11 ((.l 12 [] (.done))))))))))))))))) Kr ?_))))))
 refine qK rfl rfl rfl rfl (qK rfl rfl rfl rfl (qX rfl rfl rfl rfl (qL (k:=4) rfl rfl rfl rfl υ'97 rfl ζ'94 rfl ?_)))
 refine qP (j:=4) rfl rfl rfl rfl α'94 Tk Az (by rfl) ?_
 refine qK rfl rfl rfl rfl (qK rfl rfl rfl rfl (cX rfl rfl rfl rfl (vs:=[_,_,_]) (kM υ'115 Try.zeroValue115 (ps:=[(0,1),(1,1),(2,1)]) ⟨rfl,ζ'3,rfl,ζ'3,rfl,ζ'50,trivial⟩ rfl) ?_))
 refine cG rfl rfl rfl rfl (cB (us:=[_,_,_]) υ'94 ζ'115 rfl Try.zeroValue115 rfl rfl rfl) ?_
 intro b48
 refine qV (sV (sz:=3) (enc:=encR) (xs:=R) rfl rfl rfl rfl rfl υ'94 Try.typeInfo115 rfl rfl rfl (by decide) Tk Tk (by first | rfl | omega | (simp;done) | (simp;omega)) (ys:=[((o,k,h0):RRd)]) (sW sC) (by rfl) (by first | rfl | omega) (encR_len) (encR_one) Om (by show _*40≤_;omega) ?_)
 intro ao49 cp49
 refine qV (qX rfl rfl rfl rfl (qL (k:=4) rfl rfl rfl rfl υ'97 rfl ζ'94 rfl ?_))
 refine kR (j:=4) rfl rfl rfl rfl ζ'94 (us:=[_]) rfl rfl rfl Tk Az (by first | decide | (simp;done) | omega) ?_
 simp only [setL,List.set]
 refine qV (qS (qW [0] (e':=[(0,_)]) rfl ?_))
 refine qQ (qG (qC (.q 0 (.q 1 (.q 2 (.q 3 (.q 4 (.q 5 (.q 6 (.done)))))))) Kr ?_))
 refine qK rfl rfl rfl rfl (qX rfl rfl rfl rfl (qL (k:=4) rfl rfl rfl rfl υ'97 rfl ζ'94 rfl ?_))
 refine qP (j:=4) rfl rfl rfl rfl α'94 Tk Az (by rfl) ?_
 refine cH rfl rfl rfl rfl υ'94 ?_
 refine qN rfl rfl rfl rfl rfl (b_sub' _ (by exact kG Om Om)) ?_
 refine qR rfl rfl rfl rfl (qS (qW [6] (e':=[(6,_)]) rfl ?_))
 refine qQ (qJ (cR rfl rfl ((ao49,cp49)) (by simp) (by trivial) ?_))
 exact Tf
end Go.Ab.Fr
set_option linter.unusedVariables false
set_option linter.unusedSimpArgs false
set_option maxRecDepth 100000
namespace Go.Ab.Fr
open Go Go.Proofs Go.Ab Go.Ab.Fe Go.Ab.Vc Go.Ab.Dj Go.Ab.Fa
theorem has_iff {e wt:Nat} {wc:Int} {l:List Int} (hwt:wt < 65535) (hc:0≤wc∧wc≤maxC) (ho:OkV l) (he:e=epR wt wc):hasE e (tr l)↔¬ l.getD wt 0 < wc:=by
  rw [he,epR_has hwt (ok_cv ho) hc,tr_g];omega
theorem ep_own {t:Nat} {l:List Int}:pkN t (tr l)=epR t (l.getD t 0)∨l.getD t 0=0:=by
  by_cases h:l.getD t 0=0
  · exact .inr h
  · left;rw [epR_pos h];unfold pkN;rw [tr_g]
theorem flN_idem (f n:Int):flN (flN f n) n=flN f n:=by
  unfold flN
  by_cases h:f < 0
  · rw [if_pos h];split <;> rfl
  · rw [if_neg h,if_neg h]
section
variable {w:V4F} {wt rt t:Nat} {wc rc j fl fl':Int} {qh h:H}
theorem rd_sh_same (hrv:RelV w (wt,rt,wc,rc,true,qh,fl)) (e:qh.2.2.getD t 0=h.2.2.getD t 0):rdV t (tr h.2.2) j w=(w,0):=by
  obtain ⟨w1,w2,ws,wf⟩:=w
  obtain rfl:ws=some (tr qh.2.2):=hrv.vec
  unfold rdV;simp only
  rw [if_pos (by rw [tr_g,tr_g];exact e)]
theorem rd_sh_new (hrv:RelV w (wt,rt,wc,rc,true,qh,fl)) (ho:OkV h.2.2) (hov:OkV qh.2.2) (ht:t < 65535) (e:¬ qh.2.2.getD t 0=h.2.2.getD t 0) (hf:fl'=if h.2.2.getD wt 0 < wc then flN fl j else fl) (a:Option Addr) (c:Nat) :
    RelV (rdV t (tr h.2.2) j w).1 (wt,rt,wc,rc,true,(a,c,withL qh.2.2 t (h.2.2.getD t 0)),fl')∧(rdV t (tr h.2.2) j w).2=0:=by
  obtain ⟨w1,w2,ws,wf⟩:=w
  obtain rfl:ws=some (tr qh.2.2):=hrv.vec
  obtain rfl:fl=wf:=hrv.fl
  have hw:=has_iff hrv.th.1 hrv.c.1 ho hrv.we
  unfold rdV;simp only at hw ⊢
  rw [if_neg (by rw [tr_g,tr_g];exact e)]
  have hg:=ok_g ho t
  refine ⟨⟨hrv.we,hrv.re,rfl,?_,?_,hrv.th,hrv.c,hrv.rz⟩,rfl⟩
  · show some _=some _
    rw [tr_with hov ht hg.1 hg.2,tr_g]
  · show fl'=_
    rw [hf]
    by_cases q:h.2.2.getD wt 0 < wc
    · rw [if_pos q,if_neg (fun x=>hw.1 x q)]
    · rw [if_neg q,if_pos (hw.2 q)]
theorem rd_un_same (hrv:RelV w (wt,rt,wc,rc,false,qh,fl)) (ho:OkV h.2.2) (h1:1≤h.2.2.getD t 0) (e:rc=h.2.2.getD t 0∧rt=t):rdV t (tr h.2.2) j w=(w,0):=by
  obtain ⟨w1,w2,ws,wf⟩:=w
  obtain rfl:ws=none:=hrv.vec
  have hre:w2=epR rt rc:=hrv.re
  unfold rdV;simp only
  have hg:=ok_g ho t
  rw [if_pos (by rw [hre,epR_eq hrv.c.2 (by rw [tr_g];exact h1) (by rw [tr_g];exact hg.2),tr_g];exact e)]
theorem rd_un_ne (hrv:RelV w (wt,rt,wc,rc,false,qh,fl)) (ho:OkV h.2.2) (h1:1≤h.2.2.getD t 0) (e:¬ (rc=h.2.2.getD t 0∧rt=t)):¬ w.2.1=pkN t (tr h.2.2):=by
  have hg:=ok_g ho t
  rw [hrv.re,epR_eq hrv.c.2 (by rw [tr_g];exact h1) (by rw [tr_g];exact hg.2),tr_g];exact e
theorem rd_un_cov (hrv:RelV w (wt,rt,wc,rc,false,qh,fl)) (ho:OkV h.2.2) (h1:1≤h.2.2.getD t 0) (ht:t < 65535) (e:¬ (rc=h.2.2.getD t 0∧rt=t)) (hf:fl'=if h.2.2.getD wt 0 < wc then flN fl j else fl) (hr:rc≤h.2.2.getD rt 0) :
    RelV (rdV t (tr h.2.2) j w).1 (wt,t,wc,h.2.2.getD t 0,false,qh,fl')∧(rdV t (tr h.2.2) j w).2=0:=by
  have hne:=rd_un_ne hrv ho h1 e
  have hw:=has_iff hrv.th.1 hrv.c.1 ho hrv.we
  have hrr:=has_iff hrv.th.2 hrv.c.2 ho hrv.re
  obtain ⟨w1,w2,ws,wf⟩:=w
  obtain rfl:ws=none:=hrv.vec
  obtain rfl:fl=wf:=hrv.fl
  simp only at hne hw hrr
  unfold rdV;simp only
  rw [if_neg hne,if_pos (hrr.2 Om)]
  have hg:=ok_g ho t
  refine ⟨⟨hrv.we,?_,rfl,rfl,?_,⟨hrv.th.1,ht⟩,⟨hrv.c.1,hg⟩,fun h=>(by cases h)⟩,rfl⟩
  · show pkN t (tr h.2.2)=epR t _
    rcases ep_own (t:=t) (l:=h.2.2) with q | q
    · exact q
    · omega
  · show fl'=_
    rw [hf]
    by_cases q:h.2.2.getD wt 0 < wc
    · rw [if_pos q,if_neg (fun x=>hw.1 x q)]
    · rw [if_neg q,if_pos (hw.2 q)]
theorem rd_un_new (hrv:RelV w (wt,rt,wc,rc,false,qh,fl)) (ho:OkV h.2.2) (h1:1≤h.2.2.getD t 0) (ht:t < 65535) (e:¬ (rc=h.2.2.getD t 0∧rt=t)) (hf:fl'=if h.2.2.getD wt 0 < wc then flN fl j else fl) (hr:¬ rc≤h.2.2.getD rt 0) (a:Option Addr) (c:Nat) :
    RelV (rdV t (tr h.2.2) j w).1 (wt,0,wc,0,true,(a,c,withL (withL [] rt rc) t (h.2.2.getD t 0)),fl')∧(rdV t (tr h.2.2) j w).2=1:=by
  have hne:=rd_un_ne hrv ho h1 e
  have hw:=has_iff hrv.th.1 hrv.c.1 ho hrv.we
  have hrr:=has_iff hrv.th.2 hrv.c.2 ho hrv.re
  obtain ⟨w1,w2,ws,wf⟩:=w
  obtain rfl:ws=none:=hrv.vec
  obtain rfl:fl=wf:=hrv.fl
  have hre:w2=epR rt rc:=hrv.re
  simp only at hne hw hrr
  have hrg:=ok_g ho rt
  unfold rdV;simp only
  rw [if_neg hne,if_neg (fun x=>hrr.1 x Om)]
  have hg:=ok_g ho t
  have c2:0≤rc∧rc≤maxC:=hrv.c.2
  have t2:rt < 65535:=hrv.th.2
  have c0:rc≠0:=by omega
  refine ⟨⟨hrv.we,(epR_zero 0).symm,rfl,?_,?_,⟨hrv.th.1,show (0:Nat) < 65535 by decide⟩,⟨hrv.c.1,show (0:Int)≤0∧(0:Int)≤maxC by decide⟩,fun _=>rfl⟩,rfl⟩
  · show some _=some _
    rw [tr_with (ok_with ok_nil t2 c2.1 c2.2) ht hg.1 hg.2,tr_with ok_nil t2 c2.1 c2.2,tr_g,hre,epR_T t2 c0 c2,epR_C t2 c0 c2]
    rfl
  · show fl'=_
    rw [hf]
    by_cases q:h.2.2.getD wt 0 < wc
    · rw [if_pos q,if_neg (fun x=>hw.1 x q)]
    · rw [if_neg q,if_pos (hw.2 q)]
theorem wr_same {sh:Bool} (hrv:RelV w (wt,rt,wc,rc,sh,qh,fl)) (ho:OkV h.2.2) (h1:1≤h.2.2.getD t 0) (e:wc=h.2.2.getD t 0∧wt=t):wrV t (tr h.2.2) j w=(w,0):=by
  have hg:=ok_g ho t
  unfold wrV
  rw [if_pos (by rw [hrv.we,epR_eq hrv.c.1 (by rw [tr_g];exact h1) (by rw [tr_g];exact hg.2),tr_g];exact e)]
theorem wr_ne {sh:Bool} (hrv:RelV w (wt,rt,wc,rc,sh,qh,fl)) (ho:OkV h.2.2) (h1:1≤h.2.2.getD t 0) (e:¬ (wc=h.2.2.getD t 0∧wt=t)):¬ w.1=pkN t (tr h.2.2):=by
  have hg:=ok_g ho t
  rw [hrv.we,epR_eq hrv.c.1 (by rw [tr_g];exact h1) (by rw [tr_g];exact hg.2),tr_g];exact e
theorem below_iff {l m:List Int} (hl:OkV l) (hm:OkV m):LeqL (tr l) (tr m)↔∀ i:Nat,i < l.length→l.getD i 0≤m.getD i 0:=by
  rw [leq_iff (ok_cv hl) (ok_cv hm)]
  constructor
  · intro q i _
    have:=q i
    rwa [tr_g,tr_g] at this
  · intro q i
    rw [tr_g,tr_g]
    rcases Nat.lt_or_ge i l.length with hi | hi
    · exact q i hi
    · rw [getD_no hi];exact (ok_g hm i).1
theorem wr_un (hrv:RelV w (wt,rt,wc,rc,false,qh,fl)) (ho:OkV h.2.2) (h1:1≤h.2.2.getD t 0) (ht:t < 65535) (e:¬ (wc=h.2.2.getD t 0∧wt=t)) (hf:fl'=if h.2.2.getD wt 0 < wc∨h.2.2.getD rt 0 < rc then flN fl j else fl) :
    RelV (wrV t (tr h.2.2) j w).1 (t,rt,h.2.2.getD t 0,rc,false,qh,fl')∧(wrV t (tr h.2.2) j w).2=0:=by
  have hne:=wr_ne hrv ho h1 e
  have hw:=has_iff hrv.th.1 hrv.c.1 ho hrv.we
  have hrr:=has_iff hrv.th.2 hrv.c.2 ho hrv.re
  obtain ⟨w1,w2,ws,wf⟩:=w
  obtain rfl:ws=none:=hrv.vec
  obtain rfl:fl=wf:=hrv.fl
  simp only at hne hw hrr
  unfold wrV;simp only
  rw [if_neg hne]
  have hg:=ok_g ho t
  refine ⟨⟨?_,hrv.re,rfl,rfl,?_,⟨ht,hrv.th.2⟩,⟨hg,hrv.c.2⟩,fun h=>(by cases h)⟩,rfl⟩
  · show pkN t (tr h.2.2)=epR t _
    rcases ep_own (t:=t) (l:=h.2.2) with q | q
    · exact q
    · omega
  · show fl'=_
    rw [hf]
    by_cases q:h.2.2.getD wt 0 < wc∨h.2.2.getD rt 0 < rc
    · rw [if_pos q,if_neg (fun x=>by rcases q with q | q;exact hw.1 x.1 q;exact hrr.1 x.2 q)]
    · rw [if_neg q,if_pos ⟨hw.2 (fun x=>q (.inl x)),hrr.2 (fun x=>q (.inr x))⟩]
theorem wr_sh (hrv:RelV w (wt,rt,wc,rc,true,qh,fl)) (ho:OkV h.2.2) (hov:OkV qh.2.2) (h1:1≤h.2.2.getD t 0) (ht:t < 65535) (e:¬ (wc=h.2.2.getD t 0∧wt=t)) (hf:fl'=if h.2.2.getD wt 0 < wc∨¬ (∀ i:Nat,i < qh.2.2.length→qh.2.2.getD i 0≤h.2.2.getD i 0) then flN fl j else fl) :
    RelV (wrV t (tr h.2.2) j w).1 (t,rt,h.2.2.getD t 0,rc,false,h0,fl')∧(wrV t (tr h.2.2) j w).2=1:=by
  have hne:=wr_ne hrv ho h1 e
  have hw:=has_iff hrv.th.1 hrv.c.1 ho hrv.we
  have hrr:=has_iff hrv.th.2 hrv.c.2 ho hrv.re
  have hb:=below_iff hov ho
  have hz:rc=0:=hrv.rz rfl
  have hrg:=ok_g ho rt
  obtain ⟨w1,w2,ws,wf⟩:=w
  obtain rfl:ws=some (tr qh.2.2):=hrv.vec
  obtain rfl:fl=wf:=hrv.fl
  simp only at hne hw hrr
  have hr2:hasE w2 (tr h.2.2):=hrr.2 Om
  unfold wrV;simp only
  rw [if_neg hne]
  have hg:=ok_g ho t
  refine ⟨⟨?_,hrv.re,rfl,rfl,?_,⟨ht,hrv.th.2⟩,⟨hg,hrv.c.2⟩,fun h=>(by cases h)⟩,rfl⟩
  · show pkN t (tr h.2.2)=epR t _
    rcases ep_own (t:=t) (l:=h.2.2) with q | q
    · exact q
    · omega
  · show fl'=_
    rw [hf]
    by_cases q1:h.2.2.getD wt 0 < wc
    · rw [if_pos (.inl q1),if_neg (c:=hasE w1 (tr h.2.2)∧hasE w2 (tr h.2.2)) (fun x=>hw.1 x.1 q1)]
      split
      · rfl
      · rw [flN_idem]
    · rw [if_pos (c:=hasE w1 (tr h.2.2)∧hasE w2 (tr h.2.2)) ⟨hw.2 q1,hr2⟩]
      by_cases q2:∀ i:Nat,i < qh.2.2.length→qh.2.2.getD i 0≤h.2.2.getD i 0
      · rw [if_neg (fun x=>by rcases x with x | x;exact q1 x;exact x q2),if_pos (hb.2 q2)]
      · rw [if_pos (.inr q2),if_neg (fun x=>q2 (hb.1 x))]
end
end Go.Ab.Fr
set_option linter.unusedVariables false
set_option linter.unusedSimpArgs false
set_option maxRecDepth 100000
namespace Go.Ab.Fr
open Go Go.Proofs Go.Ab Go.Ab.Fe Go.Ab.Vc Go.Ab.Dj Go.Ab.Fa
theorem rread_sh (b n m Vc Xc t v:Nat) (c0 c2 c3 c4:Value) (cost j:Int) (Va Xa:Option Addr) (V M:List H) (X:List RVr) (h qh:H) (wt rt:Nat) (wc rc fl:Int) (w:V4F) (hn:V.length=n) (hm:X.length=m) (hh:V[t]?=some h) (hq:X[v]?=some ((wt,rt,wc,rc,true,qh,fl):RVr)) (ho:OkV h.2.2) (hP:InP M h) (hrv:RelV w (wt,rt,wc,rc,true,qh,fl)) (hov:OkV qh.2.2) (hPq:InP M qh) (ht:t < 65535) (hc:1≤h.2.2.getD t 0) (hcost:0≤cost∧cost≤1000000000000000):Spec Try.prog 39 [.pointer (some ⟨b,0,none⟩),.int .i64 ((t:Nat):Int),.int .i64 ((v:Nat):Int),.int .i64 j] [cells b 0 [c0,.slice Va n Vc,c2,c3,c4,.slice Xa m Xc,.int .i64 cost],own 1 encH Va Vc V,own 7 encX Xa Xc X,bigS (owA 1 encU) M] (fun (r:RVr × List H)=>.tuple #[]) (fun r=>RelV (rdV t (tr h.2.2) j w).1 r.1∧OkV r.1.2.2.2.2.2.1.2.2∧InP (M++r.2) r.1.2.2.2.2.2.1) (fun r=>[cells b 0 [c0,.slice Va n Vc,c2,c3,c4,.slice Xa m Xc,.int .i64 (cost+(rdV t (tr h.2.2) j w).2)],own 1 encH Va Vc V,own 7 encX Xa Xc (X.set v r.1),bigS (owA 1 encU) (M++r.2)]):=by
 refine kP (n:=122) Try.func39 rfl rfl rfl ?_
 intro Γ w0
 simp only [argE,List.cons_append,List.nil_append,Nat.zero_add,Nat.reduceAdd]
 have hil:=(List.getElem?_eq_some_iff.1 hh).1
 have hiv:=(List.getElem?_eq_some_iff.1 hq).1
 have hol:=ho.1
 have hqol:=hov.1
 have hog:=ok_g ho t
 obtain ⟨hwt,hrt⟩:wt < 65535∧rt < 65535:=hrv.th
 obtain ⟨hwc,hrc⟩:(0≤wc∧wc≤maxC)∧0≤rc∧rc≤maxC:=hrv.c
 have hc7:=hog.2
 simp only [maxC] at hwc hrc hc7
 refine qG (qC (.q 0 (.q 1 (.q 2 (.q 3 (.q 4 (.q 5 (.q 6 ((.l 7 [] ((.l 8 [] (.done)))))))))))) Kr ?_)
 refine qK rfl rfl rfl rfl (qX rfl rfl rfl rfl (qL (k:=5) rfl rfl rfl rfl υ'97 rfl ζ'95 rfl ?_))
 refine qP (j:=5) rfl rfl rfl rfl α'95 Tk Az (by rfl) ?_
 refine qK rfl rfl rfl rfl (kY (sz:=6) (k:=v) (enc:=encX) (xs:=X) rfl rfl rfl rfl rfl υ'95 ζ'99 hq (by first | rfl | omega) Om Tk ?_)
 intro ib15 io15 ha15 hl15 hc15
 refine q_loadN_O (j:=0) (k':=v) (us:=[_,_,_,_,_,_,_]) (enc:=encX) (off:=io15) rfl rfl rfl rfl α'99 ζ'99 ha15 encX_len hq Tk (by first | rfl | exact (Nat.add_zero _).symm | omega) (by rfl) rfl ?_
 refine cF rfl rfl rfl ω'99 (zs:=[.int .i64 0,.int .i64 0,.int .u64 0,.int .u64 0,.bool false,.slice none 0 0,.int .i64 0]) rfl ?_
 intro b8
 refine qV (kR (j:=0) rfl rfl rfl rfl ζ'99 (us:=[_,_,_,_,_,_,_]) rfl rfl rfl Tk Az (by first | decide | (simp;done) | omega) ?_)
 simp only [setL,List.set]
 refine qV (qS (qW [0,1,2,3,8] (e':=[(0,_),(1,_),(2,_),(3,_),(8,_)]) rfl ?_))
 refine qQ (qG (qC (.q 0 (.q 1 (.q 2 (.q 3 (.q 4 (.q 5 (.q 6 (.q 7 ((.l 8 [] (.q 9 (.done)))))))))))) Kr ?_))
 refine qK rfl rfl rfl rfl (qX rfl rfl rfl rfl (qL (k:=1) rfl rfl rfl rfl υ'97 rfl ζ'66 rfl ?_))
 refine qP (j:=1) rfl rfl rfl rfl α'66 Tk Az (by rfl) ?_
 refine qK rfl rfl rfl rfl (kY (sz:=0) (k:=t) (enc:=encH) (xs:=V) rfl rfl rfl rfl rfl υ'66 ζ'50 hh (by first | rfl | omega) Om Tk ?_)
 intro ib22 io22 ha22 hl22 hc22
 refine kQ (v:=(.slice h.1 h.2.2.length h.2.1)) (j:=0) (k':=t) (enc:=encH) (off:=io22) rfl rfl rfl rfl α'50 ha22 kD hh Tk (by first | rfl | exact (Nat.add_zero _).symm | omega) (by rfl) ?_
 refine qK rfl rfl rfl rfl ?_
 have sp_1:=Fr.at_spec h.2.2 h.1 h.2.2.length h.2.1 (bigS (owA 1 encU) M) (inp_rds hP) Ln Om t
 refine qM rfl rfl rfl rfl rfl rfl κ'35 (sp_1) Ts ?_
 rintro ⟨⟩ -
 try simp only [List.cons_append,List.nil_append]
 refine qV (qR rfl rfl rfl rfl (qS (qW [0,1,2,3,8,9] (e':=[(0,_),(1,_),(2,_),(3,_),(8,_),(9,_)]) rfl ?_)))
 refine qQ (qG (qG (qC (.q 0 (.q 1 (.q 2 (.q 3 (.q 4 (.q 5 (.q 6 (.q 7 (.q 8 (.q 9 (.q 10 (.q 11 (.q 12 (.q 13 (.q 14 (.q 15 (.q 16 (.q 17 (.q 18 (.q 19 (.q 20 (.q 21 ((.l 22 [] (.q 23 (.q 24 (.q 25 (.q 26 (.done))))))))))))))))))))))))))))) Kr ?_)))
 refine qL (k:=4) rfl rfl rfl rfl υ'99 rfl ζ'4 rfl ?_
 refine qP (j:=4) rfl rfl rfl rfl α'4 Tk Az (by rfl) ?_
 refine rL rfl rfl rfl rfl ?_
 refine kH 28 rfl (v':=.bool false) rfl ?_
 refine qK rfl rfl rfl rfl (qY rfl rfl rfl rfl (qY rfl rfl rfl rfl (qY rfl rfl rfl rfl (qY rfl rfl rfl rfl (kC rfl rfl rfl rfl rfl (qK rfl rfl rfl rfl (qY rfl rfl rfl rfl (qY rfl rfl rfl rfl ?_))))))))
 refine qY rfl rfl rfl rfl (qY rfl rfl rfl rfl (kC rfl rfl rfl rfl rfl (qK rfl rfl rfl rfl (qL (k:=4) rfl rfl rfl rfl υ'99 rfl ζ'4 rfl ?_))))
 refine qP (j:=4) rfl rfl rfl rfl α'4 Tk Az (by rfl) ?_
 refine qK rfl rfl rfl rfl (qL (k:=5) rfl rfl rfl rfl υ'99 rfl ζ'50 rfl ?_)
 refine qP (j:=5) rfl rfl rfl rfl α'50 Tk Az (by rfl) ?_
 refine qK rfl rfl rfl rfl ?_
 have sp_2:=Fr.at_spec qh.2.2 qh.1 qh.2.2.length qh.2.1 (bigS (owA 1 encU) M) (inp_rds hPq) Ln Om t
 refine qM rfl rfl rfl rfl rfl rfl κ'35 (sp_2) Ts ?_
 rintro ⟨⟩ -
 try simp only [List.cons_append,List.nil_append]
 refine qV (qK rfl rfl rfl rfl (qN rfl rfl rfl rfl rfl (cS _ _ _ _) ?_))
 refine kZ rfl rfl rfl rfl rfl (kC rfl rfl rfl rfl rfl (qS (qW [0,1,2,3,8,9,52] (e':=[(0,_),(1,_),(2,_),(3,_),(8,_),(9,_),(52,_)]) rfl ?_)))
 refine qQ ?_
 refine qB rfl (fun hsame=>?_) (fun hsame=>?_)
 ·
  refine qJ (qD ?_)
  have hz:=rd_sh_same (j:=j) hrv hsame
  refine rR rfl (((wt,rt,wc,rc,true,qh,fl),[])) (by first | rfl | (first | rfl | (congr 1;done) | (congr 1 <;> first | rfl | omega | (simp;done) | (simp;omega)))) (by exact ⟨by rw [hz];exact hrv,hov,inp_more (fun _ hm_=>List.mem_append_left _ hm_) hPq⟩) ?_
  dsimp only
  rw [hz,sM hq,List.append_nil,Int.add_zero]
  exact Tf
 refine qF (qQ (qG (qG (kX rfl (.q 0 (.q 1 (.q 2 (.q 3 (.q 4 (.q 5 (.q 6 (.q 7 (.q 8 (.q 9 (.q 10 ((.l 11 [1] (.q 12 (.done))))))))))))))) Kr ?_))))
 refine qL (k:=2) rfl rfl rfl rfl υ'99 rfl ζ'48 rfl ?_
 refine qP (j:=2) rfl rfl rfl rfl α'48 Tk Az (by rfl) ?_
 refine qK rfl rfl rfl rfl (qX rfl rfl rfl rfl (qL (k:=1) rfl rfl rfl rfl υ'97 rfl ζ'66 rfl ?_))
 refine qP (j:=1) rfl rfl rfl rfl α'66 Tk Az (by rfl) ?_
 refine qK rfl rfl rfl rfl (kY (sz:=0) (k:=t) (enc:=encH) (xs:=V) rfl rfl rfl rfl rfl υ'66 ζ'50 hh (by first | rfl | omega) Om Tk ?_)
 intro ib60 io60 ha60 hl60 hc60
 refine kQ (v:=(.slice h.1 h.2.2.length h.2.1)) (j:=0) (k':=t) (enc:=encH) (off:=io60) rfl rfl rfl rfl α'50 ha60 kD hh Tk (by first | rfl | exact (Nat.add_zero _).symm | omega) (by rfl) ?_
 refine qL (k:=0) rfl rfl rfl rfl υ'99 rfl ζ'3 rfl ?_
 refine qP (j:=0) rfl rfl rfl rfl α'3 Tk Az (by rfl) ?_
 have sp_3:=Fr.at_spec h.2.2 h.1 h.2.2.length h.2.1 (bigS (owA 1 encU) M) (inp_rds hP) Ln Om wt
 refine qM rfl rfl rfl rfl rfl rfl κ'35 (sp_3) Ts ?_
 rintro ⟨⟩ -
 try simp only [List.cons_append,List.nil_append]
 refine qH (q:=2) rfl rfl rfl α'48 Tk Az (by rfl) ?_
 refine qV (qN rfl rfl rfl rfl rfl (b_gtr _ _ _ _) ?_)
 refine qS (qW [0,1,2,3,8,9,65] (e':=[(0,_),(1,_),(2,_),(3,_),(8,_),(9,_),(65,_)]) rfl ?_)
 refine qQ ?_
 refine qB rfl (fun hcw=>?_) (fun hcw=>?_)
 ·
  refine qC (.q 0 (.q 1 ((.l 2 [] (.done))))) Kr ?_
  refine qK rfl rfl rfl rfl (qK rfl rfl rfl rfl ?_)
  have sp_4:=rflag_spec b b8 (.int .i64 ((wt:Nat):Int)) (.int .i64 ((rt:Nat):Int)) (.int .u64 wc) (.int .u64 rc) (.bool true) (.slice qh.1 qh.2.2.length qh.2.1) fl j
  refine qM rfl rfl rfl rfl rfl rfl κ'78 (sp_4) Ts ?_
  rintro ⟨⟩ -
  try simp only [List.cons_append,List.nil_append]
  refine qV (qS (qW [0,1,2,8,9] (e':=[(0,_),(1,_),(2,_),(8,_),(9,_)]) rfl ?_))
  refine qQ (qG (kS (qG (qC (.q 0 (.q 1 (.q 2 (.done)))) Kr ?_))))
  refine qL (k:=4) rfl rfl rfl rfl υ'99 rfl ζ'4 rfl ?_
  refine qP (j:=4) rfl rfl rfl rfl α'4 Tk Az (by rfl) ?_
  refine qR rfl rfl rfl rfl (qS (qQ (cN rfl ?_)))
  refine qC (.q 0 (.q 1 (.q 2 (.q 3 ((.l 4 [] (.q 5 ((.l 6 [] (.done)))))))))) Kr ?_
  refine qL (k:=5) rfl rfl rfl rfl υ'99 rfl ζ'50 rfl ?_
  refine qP (j:=5) rfl rfl rfl rfl α'50 Tk Az (by rfl) ?_
  refine qK rfl rfl rfl rfl (qK rfl rfl rfl rfl ?_)
  have sp_5:=Fr.with_spec qh.2.2 qh.1 qh.2.2.length qh.2.1 (bigS (owA 1 encU) M) (inp_rds hPq) Ln Om t (h.2.2.getD t 0) Om
  refine qM rfl rfl rfl rfl rfl rfl κ'42 (sp_5) Ts ?_
  rintro ⟨qa,qc⟩ -
  try simp only [List.cons_append,List.nil_append]
  refine qV (qL (k:=5) rfl rfl rfl rfl υ'99 rfl ζ'50 rfl ?_)
  refine kR (j:=5) rfl rfl rfl rfl ζ'50 (us:=[_]) rfl rfl rfl Tk Az (by first | decide | (simp;done) | omega) ?_
  simp only [setL,List.set]
  refine qV (qS (qW [0,2,8] (e':=[(0,_),(2,_),(8,_)]) rfl ?_))
  refine kK (qQ (kX rfl (.q 0 (.q 1 (.q 2 (.q 3 (.q 4 (.q 5 (.q 6 ((.l 7 [] (.done)))))))))) Kr ?_))
  refine qK rfl rfl rfl rfl (qX rfl rfl rfl rfl (qL (k:=5) rfl rfl rfl rfl υ'97 rfl ζ'95 rfl ?_))
  refine qP (j:=5) rfl rfl rfl rfl α'95 Tk Az (by rfl) ?_
  refine qK rfl rfl rfl rfl (kN rfl rfl rfl rfl α'99 ζ'99 Tk 0 (us:=[_,_,_,_,_,_,_]) Az rfl rfl ?_)
  refine kY (sz:=6) (k:=v) (enc:=encX) (xs:=X) rfl rfl rfl rfl rfl υ'95 ζ'99 hq (by first | rfl | omega) Om Tk ?_
  intro ib121 io121 ha121 hl121 hc121
  refine kJ (j:=0) (k:=v) (q:=(wt,rt,wc,rc,true,(qa,qc,(withL qh.2.2 t (h.2.2.getD t 0))),flN fl j)) (enc:=encX) (off:=io121) rfl rfl rfl rfl ζ'99 (us:=[_,_,_,_,_,_,_]) rfl rfl rfl ha121 encX_len hq Tk (by first | rfl | exact (Nat.add_zero _).symm | omega) (by first | decide | exact Nat.le_of_ble_eq_true rfl) (by rfl) ?_
  refine qV (qS (qW [] (e':=[]) rfl ?_))
  refine sR ?_
  refine s_pool (ao:=qa) (cap:=qc) (l:=(withL qh.2.2 t (h.2.2.getD t 0))) (M:=M) Ts fun hpn=>?_
  have hz:=rd_sh_new (fl':=(flN fl j)) (j:=j) hrv ho hov ht hsame (by rw [if_pos hcw]) qa qc
  refine rR rfl (((wt,rt,wc,rc,true,(qa,qc,(withL qh.2.2 t (h.2.2.getD t 0))),(flN fl j)),[(qa,qc,(withL qh.2.2 t (h.2.2.getD t 0)))])) (by first | rfl | (first | rfl | (congr 1;done) | (congr 1 <;> first | rfl | omega | (simp;done) | (simp;omega)))) (by exact ⟨hz.1,ok_with hov ht hog.1 hog.2,hpn⟩) ?_
  dsimp only
  rw [hz.2]
  (try rw [Int.add_zero])
  (try rw [List.append_nil])
  exact Tf
 refine qF (qQ (qG (kS (qG (qC (.q 0 (.q 1 (.q 2 (.done)))) Kr ?_)))))
 refine qL (k:=4) rfl rfl rfl rfl υ'99 rfl ζ'4 rfl ?_
 refine qP (j:=4) rfl rfl rfl rfl α'4 Tk Az (by rfl) ?_
 refine qR rfl rfl rfl rfl (qS (qW [0,1,2,8,9,88] (e':=[(0,_),(1,_),(2,_),(8,_),(9,_),(88,_)]) rfl ?_))
 refine qQ (cN rfl ?_)
 refine qC (.q 0 (.q 1 (.q 2 (.q 3 ((.l 4 [] (.q 5 ((.l 6 [] (.done)))))))))) Kr ?_
 refine qL (k:=5) rfl rfl rfl rfl υ'99 rfl ζ'50 rfl ?_
 refine qP (j:=5) rfl rfl rfl rfl α'50 Tk Az (by rfl) ?_
 refine qK rfl rfl rfl rfl (qK rfl rfl rfl rfl ?_)
 have sp_6:=Fr.with_spec qh.2.2 qh.1 qh.2.2.length qh.2.1 (bigS (owA 1 encU) M) (inp_rds hPq) Ln Om t (h.2.2.getD t 0) Om
 refine qM rfl rfl rfl rfl rfl rfl κ'42 (sp_6) Ts ?_
 rintro ⟨qa,qc⟩ -
 try simp only [List.cons_append,List.nil_append]
 refine qV (qL (k:=5) rfl rfl rfl rfl υ'99 rfl ζ'50 rfl ?_)
 refine kR (j:=5) rfl rfl rfl rfl ζ'50 (us:=[_]) rfl rfl rfl Tk Az (by first | decide | (simp;done) | omega) ?_
 simp only [setL,List.set]
 refine qV (qS (qW [0,2,8] (e':=[(0,_),(2,_),(8,_)]) rfl ?_))
 refine kK (qQ (kX rfl (.q 0 (.q 1 (.q 2 (.q 3 (.q 4 (.q 5 (.q 6 ((.l 7 [] (.done)))))))))) Kr ?_))
 refine qK rfl rfl rfl rfl (qX rfl rfl rfl rfl (qL (k:=5) rfl rfl rfl rfl υ'97 rfl ζ'95 rfl ?_))
 refine qP (j:=5) rfl rfl rfl rfl α'95 Tk Az (by rfl) ?_
 refine qK rfl rfl rfl rfl (kN rfl rfl rfl rfl α'99 ζ'99 Tk 0 (us:=[_,_,_,_,_,_,_]) Az rfl rfl ?_)
 refine kY (sz:=6) (k:=v) (enc:=encX) (xs:=X) rfl rfl rfl rfl rfl υ'95 ζ'99 hq (by first | rfl | omega) Om Tk ?_
 intro ib121 io121 ha121 hl121 hc121
 refine kJ (j:=0) (k:=v) (q:=(wt,rt,wc,rc,true,(qa,qc,(withL qh.2.2 t (h.2.2.getD t 0))),fl)) (enc:=encX) (off:=io121) rfl rfl rfl rfl ζ'99 (us:=[_,_,_,_,_,_,_]) rfl rfl rfl ha121 encX_len hq Tk (by first | rfl | exact (Nat.add_zero _).symm | omega) (by first | decide | exact Nat.le_of_ble_eq_true rfl) (by rfl) ?_
 refine qV (qS (qW [] (e':=[]) rfl ?_))
 refine sR ?_
 refine s_pool (ao:=qa) (cap:=qc) (l:=(withL qh.2.2 t (h.2.2.getD t 0))) (M:=M) Ts fun hpn=>?_
 have hz:=rd_sh_new (fl':=fl) (j:=j) hrv ho hov ht hsame (by rw [if_neg hcw]) qa qc
 refine rR rfl (((wt,rt,wc,rc,true,(qa,qc,(withL qh.2.2 t (h.2.2.getD t 0))),fl),[(qa,qc,(withL qh.2.2 t (h.2.2.getD t 0)))])) (by first | rfl | (first | rfl | (congr 1;done) | (congr 1 <;> first | rfl | omega | (simp;done) | (simp;omega)))) (by exact ⟨hz.1,ok_with hov ht hog.1 hog.2,hpn⟩) ?_
 dsimp only
 rw [hz.2]
 (try rw [Int.add_zero])
 (try rw [List.append_nil])
 exact Tf
theorem rread_un (b n m Vc Xc t v:Nat) (c0 c2 c3 c4:Value) (cost j:Int) (Va Xa:Option Addr) (V M:List H) (X:List RVr) (h qh:H) (wt rt:Nat) (wc rc fl:Int) (w:V4F) (hn:V.length=n) (hm:X.length=m) (hh:V[t]?=some h) (hq:X[v]?=some ((wt,rt,wc,rc,false,qh,fl):RVr)) (ho:OkV h.2.2) (hP:InP M h) (hrv:RelV w (wt,rt,wc,rc,false,qh,fl)) (hov:OkV qh.2.2) (hPq:InP M qh) (ht:t < 65535) (hc:1≤h.2.2.getD t 0) (hcost:0≤cost∧cost≤1000000000000000):Spec Try.prog 39 [.pointer (some ⟨b,0,none⟩),.int .i64 ((t:Nat):Int),.int .i64 ((v:Nat):Int),.int .i64 j] [cells b 0 [c0,.slice Va n Vc,c2,c3,c4,.slice Xa m Xc,.int .i64 cost],own 1 encH Va Vc V,own 7 encX Xa Xc X,bigS (owA 1 encU) M] (fun (r:RVr × List H)=>.tuple #[]) (fun r=>RelV (rdV t (tr h.2.2) j w).1 r.1∧OkV r.1.2.2.2.2.2.1.2.2∧InP (M++r.2) r.1.2.2.2.2.2.1) (fun r=>[cells b 0 [c0,.slice Va n Vc,c2,c3,c4,.slice Xa m Xc,.int .i64 (cost+(rdV t (tr h.2.2) j w).2)],own 1 encH Va Vc V,own 7 encX Xa Xc (X.set v r.1),bigS (owA 1 encU) (M++r.2)]):=by
 refine kP (n:=122) Try.func39 rfl rfl rfl ?_
 intro Γ w0
 simp only [argE,List.cons_append,List.nil_append,Nat.zero_add,Nat.reduceAdd]
 have hil:=(List.getElem?_eq_some_iff.1 hh).1
 have hiv:=(List.getElem?_eq_some_iff.1 hq).1
 have hol:=ho.1
 have hqol:=hov.1
 have hog:=ok_g ho t
 obtain ⟨hwt,hrt⟩:wt < 65535∧rt < 65535:=hrv.th
 obtain ⟨hwc,hrc⟩:(0≤wc∧wc≤maxC)∧0≤rc∧rc≤maxC:=hrv.c
 have hc7:=hog.2
 simp only [maxC] at hwc hrc hc7
 refine qG (qC (.q 0 (.q 1 (.q 2 (.q 3 (.q 4 (.q 5 (.q 6 ((.l 7 [] ((.l 8 [] (.done)))))))))))) Kr ?_)
 refine qK rfl rfl rfl rfl (qX rfl rfl rfl rfl (qL (k:=5) rfl rfl rfl rfl υ'97 rfl ζ'95 rfl ?_))
 refine qP (j:=5) rfl rfl rfl rfl α'95 Tk Az (by rfl) ?_
 refine qK rfl rfl rfl rfl (kY (sz:=6) (k:=v) (enc:=encX) (xs:=X) rfl rfl rfl rfl rfl υ'95 ζ'99 hq (by first | rfl | omega) Om Tk ?_)
 intro ib15 io15 ha15 hl15 hc15
 refine q_loadN_O (j:=0) (k':=v) (us:=[_,_,_,_,_,_,_]) (enc:=encX) (off:=io15) rfl rfl rfl rfl α'99 ζ'99 ha15 encX_len hq Tk (by first | rfl | exact (Nat.add_zero _).symm | omega) (by rfl) rfl ?_
 refine cF rfl rfl rfl ω'99 (zs:=[.int .i64 0,.int .i64 0,.int .u64 0,.int .u64 0,.bool false,.slice none 0 0,.int .i64 0]) rfl ?_
 intro b8
 refine qV (kR (j:=0) rfl rfl rfl rfl ζ'99 (us:=[_,_,_,_,_,_,_]) rfl rfl rfl Tk Az (by first | decide | (simp;done) | omega) ?_)
 simp only [setL,List.set]
 refine qV (qS (qW [0,1,2,3,8] (e':=[(0,_),(1,_),(2,_),(3,_),(8,_)]) rfl ?_))
 refine qQ (qG (qC (.q 0 (.q 1 (.q 2 (.q 3 (.q 4 (.q 5 (.q 6 (.q 7 ((.l 8 [] (.q 9 (.done)))))))))))) Kr ?_))
 refine qK rfl rfl rfl rfl (qX rfl rfl rfl rfl (qL (k:=1) rfl rfl rfl rfl υ'97 rfl ζ'66 rfl ?_))
 refine qP (j:=1) rfl rfl rfl rfl α'66 Tk Az (by rfl) ?_
 refine qK rfl rfl rfl rfl (kY (sz:=0) (k:=t) (enc:=encH) (xs:=V) rfl rfl rfl rfl rfl υ'66 ζ'50 hh (by first | rfl | omega) Om Tk ?_)
 intro ib22 io22 ha22 hl22 hc22
 refine kQ (v:=(.slice h.1 h.2.2.length h.2.1)) (j:=0) (k':=t) (enc:=encH) (off:=io22) rfl rfl rfl rfl α'50 ha22 kD hh Tk (by first | rfl | exact (Nat.add_zero _).symm | omega) (by rfl) ?_
 refine qK rfl rfl rfl rfl ?_
 have sp_1:=Fr.at_spec h.2.2 h.1 h.2.2.length h.2.1 (bigS (owA 1 encU) M) (inp_rds hP) Ln Om t
 refine qM rfl rfl rfl rfl rfl rfl κ'35 (sp_1) Ts ?_
 rintro ⟨⟩ -
 try simp only [List.cons_append,List.nil_append]
 refine qV (qR rfl rfl rfl rfl (qS (qW [0,1,2,3,8,9] (e':=[(0,_),(1,_),(2,_),(3,_),(8,_),(9,_)]) rfl ?_)))
 refine qQ (qG ?_)
 refine c_seqJ (α:=Unit) (fun (z_:Unit)=>True) (fun (z_:Unit)=>[(52,.bool (decide (rc=(h.2.2.getD t 0)∧rt=t)))]) (fun (z_:Unit)=>[]) [0,1,2,3,8,9] (er:=[(0,_),(1,_),(2,_),(3,_),(8,_),(9,_)]) rfl [] Ts ?_ ?_
 ·
  refine qC (.q 0 (.q 1 (.q 2 (.q 3 (.q 4 (.q 5 (.q 6 (.q 7 (.q 8 (.q 9 (.q 10 (.q 11 (.q 12 (.q 13 (.q 14 (.q 15 (.q 16 (.q 17 (.q 18 (.q 19 (.q 20 (.q 21 ((.l 22 [] (.q 23 (.q 24 (.q 25 (.q 26 (.done))))))))))))))))))))))))))))) Kr ?_
  refine qL (k:=4) rfl rfl rfl rfl υ'99 rfl ζ'4 rfl ?_
  refine qP (j:=4) rfl rfl rfl rfl α'4 Tk Az (by rfl) ?_
  refine rL rfl rfl rfl rfl ?_
  refine kH 28 rfl (v':=.bool true) rfl ?_
  refine qK rfl rfl rfl rfl (qL (k:=3) rfl rfl rfl rfl υ'99 rfl ζ'48 rfl ?_)
  refine qP (j:=3) rfl rfl rfl rfl α'48 Tk Az (by rfl) ?_
  refine qK rfl rfl rfl rfl (qN rfl rfl rfl rfl rfl (cS _ _ _ _) ?_)
  refine kZ rfl rfl rfl rfl rfl (qK rfl rfl rfl rfl ?_)
  refine cL 35 rfl (fun hs1=>?_) (fun hs1=>?_)
  ·
   refine qL (k:=1) rfl rfl rfl rfl υ'99 rfl ζ'3 rfl ?_
   refine qP (j:=1) rfl rfl rfl rfl α'3 Tk Az (by rfl) ?_
   refine qK rfl rfl rfl rfl (qN rfl rfl rfl rfl rfl (cS _ _ _ _) ?_)
   refine kZ rfl rfl rfl rfl rfl (qK rfl rfl rfl rfl ?_)
   refine cL 41 rfl (fun hs2=>?_) (fun hs2=>?_)
   ·
    refine qY rfl rfl rfl rfl (qY rfl rfl rfl rfl (qY rfl rfl rfl rfl (qY rfl rfl rfl rfl (qY rfl rfl rfl rfl (qY rfl rfl rfl rfl (sZ rfl rfl rfl rfl ?_))))))
    refine qY rfl rfl rfl rfl (qY rfl rfl rfl rfl (qY rfl rfl rfl rfl (kZ rfl rfl rfl rfl rfl (qS (qW [0,1,2,3,8,9,52] (e':=[(0,_),(1,_),(2,_),(3,_),(8,_),(9,_),(52,_)]) rfl ?_)))))
    refine qQ (kH 52 rfl (v':=.bool (decide (rc=(h.2.2.getD t 0)∧rt=t))) (by congr 1;symm;first | (rw [decide_eq_true_eq];exact ⟨hs1,by omega⟩) | (rw [decide_eq_false_iff_not];intro q;first | exact hs1 q.1 | (apply hs2;omega))) ?_)
    refine sY (()) (by trivial) (by exact ⟨rfl,rfl,rfl,rfl,rfl,rfl,rfl,trivial⟩) (by (try simp only [List.cons_append,List.nil_append]);(repeat ((with_reducible apply Z2);focus (first | (with_reducible (repeat (first | exact Z0 | apply Z1));done) | (repeat (first | exact Z0 | apply Z1)))));(repeat (first | exact Z3 | exact Takes.self | refine sS ?_)))
   refine qL (k:=4) rfl rfl rfl rfl υ'99 rfl ζ'4 rfl ?_
   refine qP (j:=4) rfl rfl rfl rfl α'4 Tk Az (by rfl) ?_
   refine qK rfl rfl rfl rfl (qY rfl rfl rfl rfl (qY rfl rfl rfl rfl (qY rfl rfl rfl rfl (sZ rfl rfl rfl rfl ?_))))
   refine qY rfl rfl rfl rfl (qY rfl rfl rfl rfl (kC rfl rfl rfl rfl rfl (kC rfl rfl rfl rfl rfl (qS (qW [0,1,2,3,8,9,52] (e':=[(0,_),(1,_),(2,_),(3,_),(8,_),(9,_),(52,_)]) rfl ?_)))))
   refine qQ (kH 52 rfl (v':=.bool (decide (rc=(h.2.2.getD t 0)∧rt=t))) (by congr 1;symm;first | (rw [decide_eq_true_eq];exact ⟨hs1,by omega⟩) | (rw [decide_eq_false_iff_not];intro q;first | exact hs1 q.1 | (apply hs2;omega))) ?_)
   refine sY (()) (by trivial) (by exact ⟨rfl,rfl,rfl,rfl,rfl,rfl,rfl,trivial⟩) (by (try simp only [List.cons_append,List.nil_append]);(repeat ((with_reducible apply Z2);focus (first | (with_reducible (repeat (first | exact Z0 | apply Z1));done) | (repeat (first | exact Z0 | apply Z1)))));(repeat (first | exact Z3 | exact Takes.self | refine sS ?_)))
  refine qY rfl rfl rfl rfl (qY rfl rfl rfl rfl (qY rfl rfl rfl rfl (qY rfl rfl rfl rfl (kC rfl rfl rfl rfl rfl (qK rfl rfl rfl rfl (qL (k:=4) rfl rfl rfl rfl υ'99 rfl ζ'4 rfl ?_))))))
  refine qP (j:=4) rfl rfl rfl rfl α'4 Tk Az (by rfl) ?_
  refine qK rfl rfl rfl rfl (qY rfl rfl rfl rfl (qY rfl rfl rfl rfl (qY rfl rfl rfl rfl (sZ rfl rfl rfl rfl ?_))))
  refine qY rfl rfl rfl rfl (qY rfl rfl rfl rfl (kC rfl rfl rfl rfl rfl (kC rfl rfl rfl rfl rfl (qS (qW [0,1,2,3,8,9,52] (e':=[(0,_),(1,_),(2,_),(3,_),(8,_),(9,_),(52,_)]) rfl ?_)))))
  refine qQ (kH 52 rfl (v':=.bool (decide (rc=(h.2.2.getD t 0)∧rt=t))) (by congr 1;symm;first | (rw [decide_eq_true_eq];exact ⟨hs1,by omega⟩) | (rw [decide_eq_false_iff_not];intro q;first | exact hs1 q.1 | (apply hs2;omega))) ?_)
  refine sY (()) (by trivial) (by exact ⟨rfl,rfl,rfl,rfl,rfl,rfl,rfl,trivial⟩) (by (try simp only [List.cons_append,List.nil_append]);(repeat ((with_reducible apply Z2);focus (first | (with_reducible (repeat (first | exact Z0 | apply Z1));done) | (repeat (first | exact Z0 | apply Z1)))));(repeat (first | exact Z3 | exact Takes.self | refine sS ?_)))
 rintro ⟨⟩ -
 try simp only [List.cons_append,List.nil_append]
 refine qB rfl (fun hs=>?_) (fun hs=>?_)
 ·
  refine qJ (qD ?_)
  have hz:=rd_un_same (j:=j) hrv ho hc hs
  refine rR rfl (((wt,rt,wc,rc,false,qh,fl),[])) (by first | rfl | (first | rfl | (congr 1;done) | (congr 1 <;> first | rfl | omega | (simp;done) | (simp;omega)))) (by exact ⟨by rw [hz];exact hrv,hov,inp_more (fun _ hm_=>List.mem_append_left _ hm_) hPq⟩) ?_
  dsimp only
  rw [hz,sM hq,List.append_nil,Int.add_zero]
  exact Tf
 refine qF (qQ (qG (qG (kX rfl (.q 0 (.q 1 (.q 2 (.q 3 (.q 4 (.q 5 (.q 6 (.q 7 (.q 8 (.q 9 (.q 10 ((.l 11 [1] (.q 12 (.done))))))))))))))) Kr ?_))))
 refine qL (k:=2) rfl rfl rfl rfl υ'99 rfl ζ'48 rfl ?_
 refine qP (j:=2) rfl rfl rfl rfl α'48 Tk Az (by rfl) ?_
 refine qK rfl rfl rfl rfl (qX rfl rfl rfl rfl (qL (k:=1) rfl rfl rfl rfl υ'97 rfl ζ'66 rfl ?_))
 refine qP (j:=1) rfl rfl rfl rfl α'66 Tk Az (by rfl) ?_
 refine qK rfl rfl rfl rfl (kY (sz:=0) (k:=t) (enc:=encH) (xs:=V) rfl rfl rfl rfl rfl υ'66 ζ'50 hh (by first | rfl | omega) Om Tk ?_)
 intro ib60 io60 ha60 hl60 hc60
 refine kQ (v:=(.slice h.1 h.2.2.length h.2.1)) (j:=0) (k':=t) (enc:=encH) (off:=io60) rfl rfl rfl rfl α'50 ha60 kD hh Tk (by first | rfl | exact (Nat.add_zero _).symm | omega) (by rfl) ?_
 refine qL (k:=0) rfl rfl rfl rfl υ'99 rfl ζ'3 rfl ?_
 refine qP (j:=0) rfl rfl rfl rfl α'3 Tk Az (by rfl) ?_
 have sp_2:=Fr.at_spec h.2.2 h.1 h.2.2.length h.2.1 (bigS (owA 1 encU) M) (inp_rds hP) Ln Om wt
 refine qM rfl rfl rfl rfl rfl rfl κ'35 (sp_2) Ts ?_
 rintro ⟨⟩ -
 try simp only [List.cons_append,List.nil_append]
 refine qH (q:=2) rfl rfl rfl α'48 Tk Az (by rfl) ?_
 refine qV (qN rfl rfl rfl rfl rfl (b_gtr _ _ _ _) ?_)
 refine qS (qW [0,1,2,3,8,9,65] (e':=[(0,_),(1,_),(2,_),(3,_),(8,_),(9,_),(65,_)]) rfl ?_)
 refine qQ ?_
 refine qB rfl (fun hcw=>?_) (fun hcw=>?_)
 ·
  refine qC (.q 0 (.q 1 ((.l 2 [] (.done))))) Kr ?_
  refine qK rfl rfl rfl rfl (qK rfl rfl rfl rfl ?_)
  have sp_3:=rflag_spec b b8 (.int .i64 ((wt:Nat):Int)) (.int .i64 ((rt:Nat):Int)) (.int .u64 wc) (.int .u64 rc) (.bool false) (.slice qh.1 qh.2.2.length qh.2.1) fl j
  refine qM rfl rfl rfl rfl rfl rfl κ'78 (sp_3) Ts ?_
  rintro ⟨⟩ -
  try simp only [List.cons_append,List.nil_append]
  refine qV (qS (qW [0,1,2,8,9] (e':=[(0,_),(1,_),(2,_),(8,_),(9,_)]) rfl ?_))
  refine qQ (qG (kS (qG (qC (.q 0 (.q 1 (.q 2 (.done)))) Kr ?_))))
  refine qL (k:=4) rfl rfl rfl rfl υ'99 rfl ζ'4 rfl ?_
  refine qP (j:=4) rfl rfl rfl rfl α'4 Tk Az (by rfl) ?_
  refine qR rfl rfl rfl rfl (qS (qQ (kB rfl ?_)))
  refine qG (kX rfl (.q 0 (.q 1 (.q 2 (.q 3 (.q 4 (.q 5 (.q 6 (.q 7 (.q 8 (.q 9 (.q 10 ((.l 11 [1] (.q 12 (.q 13 (.done)))))))))))))))) Kr ?_)
  refine qL (k:=3) rfl rfl rfl rfl υ'99 rfl ζ'48 rfl ?_
  refine qP (j:=3) rfl rfl rfl rfl α'48 Tk Az (by rfl) ?_
  refine qK rfl rfl rfl rfl (qX rfl rfl rfl rfl (qL (k:=1) rfl rfl rfl rfl υ'97 rfl ζ'66 rfl ?_))
  refine qP (j:=1) rfl rfl rfl rfl α'66 Tk Az (by rfl) ?_
  refine qK rfl rfl rfl rfl (kY (sz:=0) (k:=t) (enc:=encH) (xs:=V) rfl rfl rfl rfl rfl υ'66 ζ'50 hh (by first | rfl | omega) Om Tk ?_)
  intro ib105 io105 ha105 hl105 hc105
  refine kQ (v:=(.slice h.1 h.2.2.length h.2.1)) (j:=0) (k':=t) (enc:=encH) (off:=io105) rfl rfl rfl rfl α'50 ha105 kD hh Tk (by first | rfl | exact (Nat.add_zero _).symm | omega) (by rfl) ?_
  refine qL (k:=1) rfl rfl rfl rfl υ'99 rfl ζ'3 rfl ?_
  refine qP (j:=1) rfl rfl rfl rfl α'3 Tk Az (by rfl) ?_
  have sp_4:=Fr.at_spec h.2.2 h.1 h.2.2.length h.2.1 (bigS (owA 1 encU) M) (inp_rds hP) Ln Om rt
  refine qM rfl rfl rfl rfl rfl rfl κ'35 (sp_4) Ts ?_
  rintro ⟨⟩ -
  try simp only [List.cons_append,List.nil_append]
  refine qH (q:=3) rfl rfl rfl α'48 Tk Az (by rfl) ?_
  refine qV (qN rfl rfl rfl rfl rfl (b_leq _ _ _ _) ?_)
  refine qR rfl rfl rfl rfl (qS (qW [0,1,2,8,9,97] (e':=[(0,_),(1,_),(2,_),(8,_),(9,_),(97,_)]) rfl ?_))
  refine qQ ?_
  refine qB rfl (fun hcr=>?_) (fun hcr=>?_)
  ·
   refine qG (qC (.q 0 (.q 1 ((.l 2 [] (.done))))) Kr ?_)
   refine qK rfl rfl rfl rfl (qL (k:=1) rfl rfl rfl rfl υ'99 rfl ζ'3 rfl ?_)
   refine kR (j:=1) rfl rfl rfl rfl ζ'3 (us:=[_]) rfl rfl rfl Tk Az (by first | decide | (simp;done) | omega) ?_
   simp only [setL,List.set]
   refine qV (qS (qW [0,2,8,9] (e':=[(0,_),(2,_),(8,_),(9,_)]) rfl ?_))
   refine qQ (qC (.q 0 (.q 1 ((.l 2 [] (.done))))) Kr ?_)
   refine qK rfl rfl rfl rfl (qL (k:=3) rfl rfl rfl rfl υ'99 rfl ζ'48 rfl ?_)
   refine kR (j:=3) rfl rfl rfl rfl ζ'48 (us:=[_]) rfl rfl rfl Tk Az (by first | decide | (simp;done) | omega) ?_
   simp only [setL,List.set]
   refine qV (qS (kK (qQ (kX rfl (.q 0 (.q 1 (.q 2 (.q 3 (.q 4 (.q 5 (.q 6 ((.l 7 [] (.done)))))))))) Kr ?_))))
   refine qK rfl rfl rfl rfl (qX rfl rfl rfl rfl (qL (k:=5) rfl rfl rfl rfl υ'97 rfl ζ'95 rfl ?_))
   refine qP (j:=5) rfl rfl rfl rfl α'95 Tk Az (by rfl) ?_
   refine qK rfl rfl rfl rfl (kN rfl rfl rfl rfl α'99 ζ'99 Tk 0 (us:=[_,_,_,_,_,_,_]) Az rfl rfl ?_)
   refine kY (sz:=6) (k:=v) (enc:=encX) (xs:=X) rfl rfl rfl rfl rfl υ'95 ζ'99 hq (by first | rfl | omega) Om Tk ?_
   intro ib121 io121 ha121 hl121 hc121
   refine kJ (j:=0) (k:=v) (q:=(wt,t,wc,(h.2.2.getD t 0),false,qh,flN fl j)) (enc:=encX) (off:=io121) rfl rfl rfl rfl ζ'99 (us:=[_,_,_,_,_,_,_]) rfl rfl rfl ha121 encX_len hq Tk (by first | rfl | exact (Nat.add_zero _).symm | omega) (by first | decide | exact Nat.le_of_ble_eq_true rfl) (by rfl) ?_
   refine qV (qS (qW [] (e':=[]) rfl ?_))
   refine sR ?_
   have hz:=rd_un_cov (fl':=(flN fl j)) (j:=j) hrv ho hc ht hs (by rw [if_pos hcw]) hcr
   refine rR rfl (((wt,t,wc,(h.2.2.getD t 0),false,qh,(flN fl j)),[])) (by first | rfl | (first | rfl | (congr 1;done) | (congr 1 <;> first | rfl | omega | (simp;done) | (simp;omega)))) (by exact ⟨hz.1,hov,inp_more (fun _ hm_=>List.mem_append_left _ hm_) hPq⟩) ?_
   dsimp only
   rw [hz.2]
   (try rw [Int.add_zero])
   (try rw [List.append_nil])
   exact Tf
  refine qG (qC (.q 0 (.q 1 (.q 2 (.q 3 ((.l 4 [] (.q 5 (.q 6 ((.l 7 [] (.q 8 ((.l 9 [] (.done)))))))))))))) Kr ?_)
  refine qL (k:=1) rfl rfl rfl rfl υ'99 rfl ζ'3 rfl ?_
  refine qP (j:=1) rfl rfl rfl rfl α'3 Tk Az (by rfl) ?_
  refine qL (k:=3) rfl rfl rfl rfl υ'99 rfl ζ'48 rfl ?_
  refine qP (j:=3) rfl rfl rfl rfl α'48 Tk Az (by rfl) ?_
  refine kF (fun _ h=>Bun.fold (Γ:=[]) h) ?_
  have sp_5:=Fr.with_spec ([]) none 0 0 (Bun []) (.inl rfl) Ln Om rt rc Om
  refine qM rfl rfl rfl rfl rfl rfl κ'42 (sp_5) Ts ?_
  rintro ⟨ya,yc⟩ -
  try simp only [List.cons_append,List.nil_append]
  refine qV (qK rfl rfl rfl rfl (qK rfl rfl rfl rfl ?_))
  have hyl:=(ok_with (x:=rc) ok_nil hrt hrc.1 hrc.2).1
  refine cK (A:=own 1 encU ya yc (withL ([]) rt rc)) Tk ?_
  refine rQ fun f_6a f_6b f_6c=>?_
  have sp_7:=Fr.with_spec (withL ([]) rt rc) ya ((withL ([]) rt rc).length) yc (own 1 encU ya yc (withL ([]) rt rc)) (sD encU_len (fun h=>(f_6b h).1) f_6c) Ln Om t (h.2.2.getD t 0) Om
  refine qM rfl rfl rfl rfl rfl rfl κ'42 (sp_7) Ts ?_
  rintro ⟨qa,qc⟩ -
  try simp only [List.cons_append,List.nil_append]
  refine qV (qL (k:=5) rfl rfl rfl rfl υ'99 rfl ζ'50 rfl ?_)
  refine kR (j:=5) rfl rfl rfl rfl ζ'50 (us:=[_]) rfl rfl rfl Tk Az (by first | decide | (simp;done) | omega) ?_
  simp only [setL,List.set]
  refine qV (qS (qW [0,2,8] (e':=[(0,_),(2,_),(8,_)]) rfl ?_))
  refine qQ (qG (qC (.q 0 ((.l 1 [] (.done)))) Kr ?_))
  refine qL (k:=4) rfl rfl rfl rfl υ'99 rfl ζ'4 rfl ?_
  refine kR (j:=4) rfl rfl rfl rfl ζ'4 (us:=[_]) rfl rfl rfl Tk Az (by first | decide | (simp;done) | omega) ?_
  simp only [setL,List.set]
  refine qV (qS (qQ (qG (qC (.q 0 ((.l 1 [] (.done)))) Kr ?_))))
  refine qL (k:=1) rfl rfl rfl rfl υ'99 rfl ζ'3 rfl ?_
  refine kR (j:=1) rfl rfl rfl rfl ζ'3 (us:=[_]) rfl rfl rfl Tk Az (by first | decide | (simp;done) | omega) ?_
  simp only [setL,List.set]
  refine qV (qS (qQ (qG (qC (.q 0 ((.l 1 [] (.done)))) Kr ?_))))
  refine qL (k:=3) rfl rfl rfl rfl υ'99 rfl ζ'48 rfl ?_
  refine kR (j:=3) rfl rfl rfl rfl ζ'48 (us:=[_]) rfl rfl rfl Tk Az (by first | decide | (simp;done) | omega) ?_
  simp only [setL,List.set]
  refine qV (qS (qQ (qC (.q 0 (.q 1 (.q 2 (.q 3 (.q 4 (.q 5 (.q 6 ((.l 7 [] (.done)))))))))) Kr ?_)))
  refine qK rfl rfl rfl rfl (qX rfl rfl rfl rfl (qL (k:=6) rfl rfl rfl rfl υ'97 rfl ζ'3 rfl ?_))
  refine qP (j:=6) rfl rfl rfl rfl α'3 Tk Az (by rfl) ?_
  refine qN rfl rfl rfl rfl rfl (cV _ (by exact kG Om Om)) ?_
  refine qX rfl rfl rfl rfl (qL (k:=6) rfl rfl rfl rfl υ'97 rfl ζ'3 rfl ?_)
  refine kR (j:=6) rfl rfl rfl rfl ζ'3 (us:=[_]) rfl rfl rfl Tk Az (by first | decide | (simp;done) | omega) ?_
  simp only [setL,List.set]
  refine qV (qS (qW [0,2,8] (e':=[(0,_),(2,_),(8,_)]) rfl ?_))
  refine kK (qQ (kX rfl (.q 0 (.q 1 (.q 2 (.q 3 (.q 4 (.q 5 (.q 6 ((.l 7 [] (.done)))))))))) Kr ?_))
  refine qK rfl rfl rfl rfl (qX rfl rfl rfl rfl (qL (k:=5) rfl rfl rfl rfl υ'97 rfl ζ'95 rfl ?_))
  refine qP (j:=5) rfl rfl rfl rfl α'95 Tk Az (by rfl) ?_
  refine qK rfl rfl rfl rfl (kN rfl rfl rfl rfl α'99 ζ'99 Tk 0 (us:=[_,_,_,_,_,_,_]) Az rfl rfl ?_)
  refine kY (sz:=6) (k:=v) (enc:=encX) (xs:=X) rfl rfl rfl rfl rfl υ'95 ζ'99 hq (by first | rfl | omega) Om Tk ?_
  intro ib121 io121 ha121 hl121 hc121
  refine kJ (j:=0) (k:=v) (q:=(wt,0,wc,0,true,(qa,qc,(withL (withL [] rt rc) t (h.2.2.getD t 0))),flN fl j)) (enc:=encX) (off:=io121) rfl rfl rfl rfl ζ'99 (us:=[_,_,_,_,_,_,_]) rfl rfl rfl ha121 encX_len hq Tk (by first | rfl | exact (Nat.add_zero _).symm | omega) (by first | decide | exact Nat.le_of_ble_eq_true rfl) (by rfl) ?_
  refine qV (qS (qW [] (e':=[]) rfl ?_))
  refine sR ?_
  refine s_pool (ao:=qa) (cap:=qc) (l:=(withL (withL [] rt rc) t (h.2.2.getD t 0))) (M:=M) Ts fun hpn=>?_
  have hz:=rd_un_new (fl':=(flN fl j)) (j:=j) hrv ho hc ht hs (by rw [if_pos hcw]) hcr qa qc
  refine rR rfl (((wt,0,wc,0,true,(qa,qc,(withL (withL [] rt rc) t (h.2.2.getD t 0))),(flN fl j)),[(qa,qc,(withL (withL [] rt rc) t (h.2.2.getD t 0)))])) (by first | rfl | (first | rfl | (congr 1;done) | (congr 1 <;> first | rfl | omega | (simp;done) | (simp;omega)))) (by exact ⟨hz.1,ok_with (ok_with ok_nil hrt hrc.1 hrc.2) ht hog.1 hog.2,hpn⟩) ?_
  dsimp only
  rw [hz.2]
  (try rw [Int.add_zero])
  (try rw [List.append_nil])
  exact Tf
 refine qF (qQ (qG (kS (qG (qC (.q 0 (.q 1 (.q 2 (.done)))) Kr ?_)))))
 refine qL (k:=4) rfl rfl rfl rfl υ'99 rfl ζ'4 rfl ?_
 refine qP (j:=4) rfl rfl rfl rfl α'4 Tk Az (by rfl) ?_
 refine qR rfl rfl rfl rfl (qS (qW [0,1,2,8,9,88] (e':=[(0,_),(1,_),(2,_),(8,_),(9,_),(88,_)]) rfl ?_))
 refine qQ (kB rfl ?_)
 refine qG (kX rfl (.q 0 (.q 1 (.q 2 (.q 3 (.q 4 (.q 5 (.q 6 (.q 7 (.q 8 (.q 9 (.q 10 ((.l 11 [1] (.q 12 (.q 13 (.done)))))))))))))))) Kr ?_)
 refine qL (k:=3) rfl rfl rfl rfl υ'99 rfl ζ'48 rfl ?_
 refine qP (j:=3) rfl rfl rfl rfl α'48 Tk Az (by rfl) ?_
 refine qK rfl rfl rfl rfl (qX rfl rfl rfl rfl (qL (k:=1) rfl rfl rfl rfl υ'97 rfl ζ'66 rfl ?_))
 refine qP (j:=1) rfl rfl rfl rfl α'66 Tk Az (by rfl) ?_
 refine qK rfl rfl rfl rfl (kY (sz:=0) (k:=t) (enc:=encH) (xs:=V) rfl rfl rfl rfl rfl υ'66 ζ'50 hh (by first | rfl | omega) Om Tk ?_)
 intro ib105 io105 ha105 hl105 hc105
 refine kQ (v:=(.slice h.1 h.2.2.length h.2.1)) (j:=0) (k':=t) (enc:=encH) (off:=io105) rfl rfl rfl rfl α'50 ha105 kD hh Tk (by first | rfl | exact (Nat.add_zero _).symm | omega) (by rfl) ?_
 refine qL (k:=1) rfl rfl rfl rfl υ'99 rfl ζ'3 rfl ?_
 refine qP (j:=1) rfl rfl rfl rfl α'3 Tk Az (by rfl) ?_
 have sp_8:=Fr.at_spec h.2.2 h.1 h.2.2.length h.2.1 (bigS (owA 1 encU) M) (inp_rds hP) Ln Om rt
 refine qM rfl rfl rfl rfl rfl rfl κ'35 (sp_8) Ts ?_
 rintro ⟨⟩ -
 try simp only [List.cons_append,List.nil_append]
 refine qH (q:=3) rfl rfl rfl α'48 Tk Az (by rfl) ?_
 refine qV (qN rfl rfl rfl rfl rfl (b_leq _ _ _ _) ?_)
 refine qR rfl rfl rfl rfl (qS (qW [0,1,2,8,9,97] (e':=[(0,_),(1,_),(2,_),(8,_),(9,_),(97,_)]) rfl ?_))
 refine qQ ?_
 refine qB rfl (fun hcr=>?_) (fun hcr=>?_)
 ·
  refine qG (qC (.q 0 (.q 1 ((.l 2 [] (.done))))) Kr ?_)
  refine qK rfl rfl rfl rfl (qL (k:=1) rfl rfl rfl rfl υ'99 rfl ζ'3 rfl ?_)
  refine kR (j:=1) rfl rfl rfl rfl ζ'3 (us:=[_]) rfl rfl rfl Tk Az (by first | decide | (simp;done) | omega) ?_
  simp only [setL,List.set]
  refine qV (qS (qW [0,2,8,9] (e':=[(0,_),(2,_),(8,_),(9,_)]) rfl ?_))
  refine qQ (qC (.q 0 (.q 1 ((.l 2 [] (.done))))) Kr ?_)
  refine qK rfl rfl rfl rfl (qL (k:=3) rfl rfl rfl rfl υ'99 rfl ζ'48 rfl ?_)
  refine kR (j:=3) rfl rfl rfl rfl ζ'48 (us:=[_]) rfl rfl rfl Tk Az (by first | decide | (simp;done) | omega) ?_
  simp only [setL,List.set]
  refine qV (qS (kK (qQ (kX rfl (.q 0 (.q 1 (.q 2 (.q 3 (.q 4 (.q 5 (.q 6 ((.l 7 [] (.done)))))))))) Kr ?_))))
  refine qK rfl rfl rfl rfl (qX rfl rfl rfl rfl (qL (k:=5) rfl rfl rfl rfl υ'97 rfl ζ'95 rfl ?_))
  refine qP (j:=5) rfl rfl rfl rfl α'95 Tk Az (by rfl) ?_
  refine qK rfl rfl rfl rfl (kN rfl rfl rfl rfl α'99 ζ'99 Tk 0 (us:=[_,_,_,_,_,_,_]) Az rfl rfl ?_)
  refine kY (sz:=6) (k:=v) (enc:=encX) (xs:=X) rfl rfl rfl rfl rfl υ'95 ζ'99 hq (by first | rfl | omega) Om Tk ?_
  intro ib121 io121 ha121 hl121 hc121
  refine kJ (j:=0) (k:=v) (q:=(wt,t,wc,(h.2.2.getD t 0),false,qh,fl)) (enc:=encX) (off:=io121) rfl rfl rfl rfl ζ'99 (us:=[_,_,_,_,_,_,_]) rfl rfl rfl ha121 encX_len hq Tk (by first | rfl | exact (Nat.add_zero _).symm | omega) (by first | decide | exact Nat.le_of_ble_eq_true rfl) (by rfl) ?_
  refine qV (qS (qW [] (e':=[]) rfl ?_))
  refine sR ?_
  have hz:=rd_un_cov (fl':=fl) (j:=j) hrv ho hc ht hs (by rw [if_neg hcw]) hcr
  refine rR rfl (((wt,t,wc,(h.2.2.getD t 0),false,qh,fl),[])) (by first | rfl | (first | rfl | (congr 1;done) | (congr 1 <;> first | rfl | omega | (simp;done) | (simp;omega)))) (by exact ⟨hz.1,hov,inp_more (fun _ hm_=>List.mem_append_left _ hm_) hPq⟩) ?_
  dsimp only
  rw [hz.2]
  (try rw [Int.add_zero])
  (try rw [List.append_nil])
  exact Tf
 refine qG (qC (.q 0 (.q 1 (.q 2 (.q 3 ((.l 4 [] (.q 5 (.q 6 ((.l 7 [] (.q 8 ((.l 9 [] (.done)))))))))))))) Kr ?_)
 refine qL (k:=1) rfl rfl rfl rfl υ'99 rfl ζ'3 rfl ?_
 refine qP (j:=1) rfl rfl rfl rfl α'3 Tk Az (by rfl) ?_
 refine qL (k:=3) rfl rfl rfl rfl υ'99 rfl ζ'48 rfl ?_
 refine qP (j:=3) rfl rfl rfl rfl α'48 Tk Az (by rfl) ?_
 refine kF (fun _ h=>Bun.fold (Γ:=[]) h) ?_
 have sp_9:=Fr.with_spec ([]) none 0 0 (Bun []) (.inl rfl) Ln Om rt rc Om
 refine qM rfl rfl rfl rfl rfl rfl κ'42 (sp_9) Ts ?_
 rintro ⟨ya,yc⟩ -
 try simp only [List.cons_append,List.nil_append]
 refine qV (qK rfl rfl rfl rfl (qK rfl rfl rfl rfl ?_))
 have hyl:=(ok_with (x:=rc) ok_nil hrt hrc.1 hrc.2).1
 refine cK (A:=own 1 encU ya yc (withL ([]) rt rc)) Tk ?_
 refine rQ fun f_10a f_10b f_10c=>?_
 have sp_11:=Fr.with_spec (withL ([]) rt rc) ya ((withL ([]) rt rc).length) yc (own 1 encU ya yc (withL ([]) rt rc)) (sD encU_len (fun h=>(f_10b h).1) f_10c) Ln Om t (h.2.2.getD t 0) Om
 refine qM rfl rfl rfl rfl rfl rfl κ'42 (sp_11) Ts ?_
 rintro ⟨qa,qc⟩ -
 try simp only [List.cons_append,List.nil_append]
 refine qV (qL (k:=5) rfl rfl rfl rfl υ'99 rfl ζ'50 rfl ?_)
 refine kR (j:=5) rfl rfl rfl rfl ζ'50 (us:=[_]) rfl rfl rfl Tk Az (by first | decide | (simp;done) | omega) ?_
 simp only [setL,List.set]
 refine qV (qS (qW [0,2,8] (e':=[(0,_),(2,_),(8,_)]) rfl ?_))
 refine qQ (qG (qC (.q 0 ((.l 1 [] (.done)))) Kr ?_))
 refine qL (k:=4) rfl rfl rfl rfl υ'99 rfl ζ'4 rfl ?_
 refine kR (j:=4) rfl rfl rfl rfl ζ'4 (us:=[_]) rfl rfl rfl Tk Az (by first | decide | (simp;done) | omega) ?_
 simp only [setL,List.set]
 refine qV (qS (qQ (qG (qC (.q 0 ((.l 1 [] (.done)))) Kr ?_))))
 refine qL (k:=1) rfl rfl rfl rfl υ'99 rfl ζ'3 rfl ?_
 refine kR (j:=1) rfl rfl rfl rfl ζ'3 (us:=[_]) rfl rfl rfl Tk Az (by first | decide | (simp;done) | omega) ?_
 simp only [setL,List.set]
 refine qV (qS (qQ (qG (qC (.q 0 ((.l 1 [] (.done)))) Kr ?_))))
 refine qL (k:=3) rfl rfl rfl rfl υ'99 rfl ζ'48 rfl ?_
 refine kR (j:=3) rfl rfl rfl rfl ζ'48 (us:=[_]) rfl rfl rfl Tk Az (by first | decide | (simp;done) | omega) ?_
 simp only [setL,List.set]
 refine qV (qS (qQ (qC (.q 0 (.q 1 (.q 2 (.q 3 (.q 4 (.q 5 (.q 6 ((.l 7 [] (.done)))))))))) Kr ?_)))
 refine qK rfl rfl rfl rfl (qX rfl rfl rfl rfl (qL (k:=6) rfl rfl rfl rfl υ'97 rfl ζ'3 rfl ?_))
 refine qP (j:=6) rfl rfl rfl rfl α'3 Tk Az (by rfl) ?_
 refine qN rfl rfl rfl rfl rfl (cV _ (by exact kG Om Om)) ?_
 refine qX rfl rfl rfl rfl (qL (k:=6) rfl rfl rfl rfl υ'97 rfl ζ'3 rfl ?_)
 refine kR (j:=6) rfl rfl rfl rfl ζ'3 (us:=[_]) rfl rfl rfl Tk Az (by first | decide | (simp;done) | omega) ?_
 simp only [setL,List.set]
 refine qV (qS (qW [0,2,8] (e':=[(0,_),(2,_),(8,_)]) rfl ?_))
 refine kK (qQ (kX rfl (.q 0 (.q 1 (.q 2 (.q 3 (.q 4 (.q 5 (.q 6 ((.l 7 [] (.done)))))))))) Kr ?_))
 refine qK rfl rfl rfl rfl (qX rfl rfl rfl rfl (qL (k:=5) rfl rfl rfl rfl υ'97 rfl ζ'95 rfl ?_))
 refine qP (j:=5) rfl rfl rfl rfl α'95 Tk Az (by rfl) ?_
 refine qK rfl rfl rfl rfl (kN rfl rfl rfl rfl α'99 ζ'99 Tk 0 (us:=[_,_,_,_,_,_,_]) Az rfl rfl ?_)
 refine kY (sz:=6) (k:=v) (enc:=encX) (xs:=X) rfl rfl rfl rfl rfl υ'95 ζ'99 hq (by first | rfl | omega) Om Tk ?_
 intro ib121 io121 ha121 hl121 hc121
 refine kJ (j:=0) (k:=v) (q:=(wt,0,wc,0,true,(qa,qc,(withL (withL [] rt rc) t (h.2.2.getD t 0))),fl)) (enc:=encX) (off:=io121) rfl rfl rfl rfl ζ'99 (us:=[_,_,_,_,_,_,_]) rfl rfl rfl ha121 encX_len hq Tk (by first | rfl | exact (Nat.add_zero _).symm | omega) (by first | decide | exact Nat.le_of_ble_eq_true rfl) (by rfl) ?_
 refine qV (qS (qW [] (e':=[]) rfl ?_))
 refine sR ?_
 refine s_pool (ao:=qa) (cap:=qc) (l:=(withL (withL [] rt rc) t (h.2.2.getD t 0))) (M:=M) Ts fun hpn=>?_
 have hz:=rd_un_new (fl':=fl) (j:=j) hrv ho hc ht hs (by rw [if_neg hcw]) hcr qa qc
 refine rR rfl (((wt,0,wc,0,true,(qa,qc,(withL (withL [] rt rc) t (h.2.2.getD t 0))),fl),[(qa,qc,(withL (withL [] rt rc) t (h.2.2.getD t 0)))])) (by first | rfl | (first | rfl | (congr 1;done) | (congr 1 <;> first | rfl | omega | (simp;done) | (simp;omega)))) (by exact ⟨hz.1,ok_with (ok_with ok_nil hrt hrc.1 hrc.2) ht hog.1 hog.2,hpn⟩) ?_
 dsimp only
 rw [hz.2]
 (try rw [Int.add_zero])
 (try rw [List.append_nil])
 exact Tf
theorem rwrite_sh (b n m Vc Xc t v:Nat) (c0 c2 c3 c4:Value) (cost j:Int) (Va Xa:Option Addr) (V M:List H) (X:List RVr) (h qh:H) (wt rt:Nat) (wc rc fl:Int) (w:V4F) (hn:V.length=n) (hm:X.length=m) (hh:V[t]?=some h) (hq:X[v]?=some ((wt,rt,wc,rc,true,qh,fl):RVr)) (ho:OkV h.2.2) (hP:InP M h) (hrv:RelV w (wt,rt,wc,rc,true,qh,fl)) (hov:OkV qh.2.2) (hPq:InP M qh) (ht:t < 65535) (hc:1≤h.2.2.getD t 0) (hcost:0≤cost∧cost≤1000000000000000):Spec Try.prog 40 [.pointer (some ⟨b,0,none⟩),.int .i64 ((t:Nat):Int),.int .i64 ((v:Nat):Int),.int .i64 j] [cells b 0 [c0,.slice Va n Vc,c2,c3,c4,.slice Xa m Xc,.int .i64 cost],own 1 encH Va Vc V,own 7 encX Xa Xc X,bigS (owA 1 encU) M] (fun (r:RVr × List H)=>.tuple #[]) (fun r=>RelV (wrV t (tr h.2.2) j w).1 r.1∧OkV r.1.2.2.2.2.2.1.2.2∧InP (M++r.2) r.1.2.2.2.2.2.1) (fun r=>[cells b 0 [c0,.slice Va n Vc,c2,c3,c4,.slice Xa m Xc,.int .i64 (cost+(wrV t (tr h.2.2) j w).2)],own 1 encH Va Vc V,own 7 encX Xa Xc (X.set v r.1),bigS (owA 1 encU) (M++r.2)]):=by
 refine kP (n:=108) Try.func40 rfl rfl rfl ?_
 intro Γ w0
 simp only [argE,List.cons_append,List.nil_append,Nat.zero_add,Nat.reduceAdd]
 have hil:=(List.getElem?_eq_some_iff.1 hh).1
 have hiv:=(List.getElem?_eq_some_iff.1 hq).1
 have hol:=ho.1
 have hqol:=hov.1
 have hog:=ok_g ho t
 obtain ⟨hwt,hrt⟩:wt < 65535∧rt < 65535:=hrv.th
 obtain ⟨hwc,hrc⟩:(0≤wc∧wc≤maxC)∧0≤rc∧rc≤maxC:=hrv.c
 have hc7:=hog.2
 simp only [maxC] at hwc hrc hc7
 refine qG (qC (.q 0 (.q 1 (.q 2 (.q 3 (.q 4 (.q 5 (.q 6 ((.l 7 [] ((.l 8 [] (.done)))))))))))) Kr ?_)
 refine qK rfl rfl rfl rfl (qX rfl rfl rfl rfl (qL (k:=5) rfl rfl rfl rfl υ'97 rfl ζ'95 rfl ?_))
 refine qP (j:=5) rfl rfl rfl rfl α'95 Tk Az (by rfl) ?_
 refine qK rfl rfl rfl rfl (kY (sz:=6) (k:=v) (enc:=encX) (xs:=X) rfl rfl rfl rfl rfl υ'95 ζ'99 hq (by first | rfl | omega) Om Tk ?_)
 intro ib16 io16 ha16 hl16 hc16
 refine q_loadN_O (j:=0) (k':=v) (us:=[_,_,_,_,_,_,_]) (enc:=encX) (off:=io16) rfl rfl rfl rfl α'99 ζ'99 ha16 encX_len hq Tk (by first | rfl | exact (Nat.add_zero _).symm | omega) (by rfl) rfl ?_
 refine cF rfl rfl rfl ω'99 (zs:=[.int .i64 0,.int .i64 0,.int .u64 0,.int .u64 0,.bool false,.slice none 0 0,.int .i64 0]) rfl ?_
 intro b8
 refine qV (kR (j:=0) rfl rfl rfl rfl ζ'99 (us:=[_,_,_,_,_,_,_]) rfl rfl rfl Tk Az (by first | decide | (simp;done) | omega) ?_)
 simp only [setL,List.set]
 refine qV (qS (qW [0,1,2,3,8] (e':=[(0,_),(1,_),(2,_),(3,_),(8,_)]) rfl ?_))
 refine qQ (qG (qC (.q 0 (.q 1 (.q 2 (.q 3 (.q 4 (.q 5 (.q 6 (.q 7 ((.l 8 [] (.q 9 (.done)))))))))))) Kr ?_))
 refine qK rfl rfl rfl rfl (qX rfl rfl rfl rfl (qL (k:=1) rfl rfl rfl rfl υ'97 rfl ζ'66 rfl ?_))
 refine qP (j:=1) rfl rfl rfl rfl α'66 Tk Az (by rfl) ?_
 refine qK rfl rfl rfl rfl (kY (sz:=0) (k:=t) (enc:=encH) (xs:=V) rfl rfl rfl rfl rfl υ'66 ζ'50 hh (by first | rfl | omega) Om Tk ?_)
 intro ib23 io23 ha23 hl23 hc23
 refine kQ (v:=(.slice h.1 h.2.2.length h.2.1)) (j:=0) (k':=t) (enc:=encH) (off:=io23) rfl rfl rfl rfl α'50 ha23 kD hh Tk (by first | rfl | exact (Nat.add_zero _).symm | omega) (by rfl) ?_
 refine qK rfl rfl rfl rfl ?_
 have sp_1:=Fr.at_spec h.2.2 h.1 h.2.2.length h.2.1 (bigS (owA 1 encU) M) (inp_rds hP) Ln Om t
 refine qM rfl rfl rfl rfl rfl rfl κ'35 (sp_1) Ts ?_
 rintro ⟨⟩ -
 try simp only [List.cons_append,List.nil_append]
 refine qV (qR rfl rfl rfl rfl (qS (qW [0,1,2,3,8,9] (e':=[(0,_),(1,_),(2,_),(3,_),(8,_),(9,_)]) rfl ?_)))
 refine qQ (qG ?_)
 refine c_seqJ (α:=Unit) (fun (z_:Unit)=>True) (fun (z_:Unit)=>[(36,.bool (decide (wc=(h.2.2.getD t 0)∧wt=t)))]) (fun (z_:Unit)=>[]) [0,1,2,3,8,9] (er:=[(0,_),(1,_),(2,_),(3,_),(8,_),(9,_)]) rfl [] Ts ?_ ?_
 ·
  refine qC (.q 0 (.q 1 (.q 2 (.q 3 (.q 4 (.q 5 (.q 6 (.q 7 (.q 8 (.q 9 (.done))))))))))) Kr ?_
  refine qL (k:=2) rfl rfl rfl rfl υ'99 rfl ζ'48 rfl ?_
  refine qP (j:=2) rfl rfl rfl rfl α'48 Tk Az (by rfl) ?_
  refine qK rfl rfl rfl rfl (qN rfl rfl rfl rfl rfl (cS _ _ _ _) ?_)
  refine qK rfl rfl rfl rfl ?_
  refine cL 31 rfl (fun hs1=>?_) (fun hs1=>?_)
  ·
   refine qL (k:=0) rfl rfl rfl rfl υ'99 rfl ζ'3 rfl ?_
   refine qP (j:=0) rfl rfl rfl rfl α'3 Tk Az (by rfl) ?_
   refine qK rfl rfl rfl rfl (qN rfl rfl rfl rfl rfl (cS _ _ _ _) ?_)
   refine kZ rfl rfl rfl rfl rfl (qS (qW [0,1,2,3,8,9,36] (e':=[(0,_),(1,_),(2,_),(3,_),(8,_),(9,_),(36,_)]) rfl ?_))
   refine qQ (kH 36 rfl (v':=.bool (decide (wc=(h.2.2.getD t 0)∧wt=t))) (by congr 1;symm;first | (rw [decide_eq_true_eq];exact ⟨hs1,by omega⟩) | (rw [decide_eq_false_iff_not];intro q;first | exact hs1 q.1 | (apply hs2;omega)) | (rw [decide_eq_decide];constructor <;> intro q <;> first | (exact ⟨hs1,by omega⟩) | (have:=q.2;omega))) ?_)
   refine sY (()) (by trivial) (by exact ⟨rfl,rfl,rfl,rfl,rfl,rfl,rfl,trivial⟩) (by (try simp only [List.cons_append,List.nil_append]);(repeat ((with_reducible apply Z2);focus (first | (with_reducible (repeat (first | exact Z0 | apply Z1));done) | (repeat (first | exact Z0 | apply Z1)))));(repeat (first | exact Z3 | exact Takes.self | refine sS ?_)))
  refine qY rfl rfl rfl rfl (qY rfl rfl rfl rfl (qY rfl rfl rfl rfl (qY rfl rfl rfl rfl (kC rfl rfl rfl rfl rfl (qS (qW [0,1,2,3,8,9,36] (e':=[(0,_),(1,_),(2,_),(3,_),(8,_),(9,_),(36,_)]) rfl ?_))))))
  refine qQ (kH 36 rfl (v':=.bool (decide (wc=(h.2.2.getD t 0)∧wt=t))) (by congr 1;symm;first | (rw [decide_eq_true_eq];exact ⟨hs1,by omega⟩) | (rw [decide_eq_false_iff_not];intro q;first | exact hs1 q.1 | (apply hs2;omega)) | (rw [decide_eq_decide];constructor <;> intro q <;> first | (exact ⟨hs1,by omega⟩) | (have:=q.2;omega))) ?_)
  refine sY (()) (by trivial) (by exact ⟨rfl,rfl,rfl,rfl,rfl,rfl,rfl,trivial⟩) (by (try simp only [List.cons_append,List.nil_append]);(repeat ((with_reducible apply Z2);focus (first | (with_reducible (repeat (first | exact Z0 | apply Z1));done) | (repeat (first | exact Z0 | apply Z1)))));(repeat (first | exact Z3 | exact Takes.self | refine sS ?_)))
 rintro ⟨⟩ -
 try simp only [List.cons_append,List.nil_append]
 refine qB rfl (fun hs=>?_) (fun hs=>?_)
 ·
  refine qJ (qD ?_)
  have hz:=wr_same (j:=j) hrv ho hc hs
  refine rR rfl (((wt,rt,wc,rc,true,qh,fl),[])) (by first | rfl | (first | rfl | (congr 1;done) | (congr 1 <;> first | rfl | omega | (simp;done) | (simp;omega)))) (by exact ⟨by rw [hz];exact hrv,hov,inp_more (fun _ hm_=>List.mem_append_left _ hm_) hPq⟩) ?_
  dsimp only
  rw [hz,sM hq,List.append_nil,Int.add_zero]
  exact Tf
 refine qF (qQ (qG (kX rfl (.q 0 (.q 1 (.q 2 (.q 3 (.q 4 (.q 5 (.q 6 (.q 7 (.q 8 (.q 9 (.q 10 ((.l 11 [1] (.q 12 (.q 13 (.done)))))))))))))))) Kr ?_)))
 refine qL (k:=2) rfl rfl rfl rfl υ'99 rfl ζ'48 rfl ?_
 refine qP (j:=2) rfl rfl rfl rfl α'48 Tk Az (by rfl) ?_
 refine qK rfl rfl rfl rfl (qX rfl rfl rfl rfl (qL (k:=1) rfl rfl rfl rfl υ'97 rfl ζ'66 rfl ?_))
 refine qP (j:=1) rfl rfl rfl rfl α'66 Tk Az (by rfl) ?_
 refine qK rfl rfl rfl rfl (kY (sz:=0) (k:=t) (enc:=encH) (xs:=V) rfl rfl rfl rfl rfl υ'66 ζ'50 hh (by first | rfl | omega) Om Tk ?_)
 intro ib44 io44 ha44 hl44 hc44
 refine kQ (v:=(.slice h.1 h.2.2.length h.2.1)) (j:=0) (k':=t) (enc:=encH) (off:=io44) rfl rfl rfl rfl α'50 ha44 kD hh Tk (by first | rfl | exact (Nat.add_zero _).symm | omega) (by rfl) ?_
 refine qL (k:=0) rfl rfl rfl rfl υ'99 rfl ζ'3 rfl ?_
 refine qP (j:=0) rfl rfl rfl rfl α'3 Tk Az (by rfl) ?_
 have sp_2:=Fr.at_spec h.2.2 h.1 h.2.2.length h.2.1 (bigS (owA 1 encU) M) (inp_rds hP) Ln Om wt
 refine qM rfl rfl rfl rfl rfl rfl κ'35 (sp_2) Ts ?_
 rintro ⟨⟩ -
 try simp only [List.cons_append,List.nil_append]
 refine qH (q:=2) rfl rfl rfl α'48 Tk Az (by rfl) ?_
 refine qV (qN rfl rfl rfl rfl rfl (b_gtr _ _ _ _) ?_)
 refine qR rfl rfl rfl rfl (qS (qW [0,1,2,3,8,9,10] (e':=[(0,_),(1,_),(2,_),(3,_),(8,_),(9,_),(10,_)]) rfl ?_))
 refine qQ (qG (qG (qC (.q 0 (.q 1 (.done))) Kr ?_)))
 refine qL (k:=4) rfl rfl rfl rfl υ'99 rfl ζ'4 rfl ?_
 refine qP (j:=4) rfl rfl rfl rfl α'4 Tk Az (by rfl) ?_
 refine qS (qQ (cN rfl ?_))
 refine c_seqJ (α:=Unit) (fun (z_:Unit)=>True) (fun (z_:Unit)=>[(10,.bool (decide (h.2.2.getD wt 0 < wc∨¬ (∀ i:Nat,i < qh.2.2.length→qh.2.2.getD i 0≤h.2.2.getD i 0))))]) (fun (z_:Unit)=>[]) [0,1,2,3,8,9] (er:=[(0,_),(1,_),(2,_),(3,_),(8,_),(9,_)]) rfl [] Ts ?_ ?_
 ·
  refine kX rfl (.q 0 (.q 1 (.q 2 (.q 3 (.q 4 (.q 5 (.q 6 (.q 7 (.q 8 (.q 9 (.q 10 ((.l 11 [] (.q 12 (.q 13 ((.l 14 [] (.done)))))))))))))))))) Kr ?_
  refine qK rfl rfl rfl rfl (qK rfl rfl rfl rfl ?_)
  refine cL 53 rfl (fun hcw=>?_) (fun hcw=>?_)
  ·
   refine qY rfl rfl rfl rfl (qY rfl rfl rfl rfl (qY rfl rfl rfl rfl (qY rfl rfl rfl rfl (qY rfl rfl rfl rfl (qY rfl rfl rfl rfl (qY rfl rfl rfl rfl (qY rfl rfl rfl rfl (qY rfl rfl rfl rfl ?_))))))))
   refine sZ rfl rfl rfl rfl ?_
   refine qY rfl rfl rfl rfl (kZ rfl rfl rfl rfl rfl (l_assign rfl rfl rfl rfl ?_))
   refine qV (qS (qW [0,1,2,3,8,9,10] (e':=[(0,_),(1,_),(2,_),(3,_),(8,_),(9,_),(10,_)]) rfl ?_))
   refine qQ (kH 10 rfl (v':=.bool (decide (h.2.2.getD wt 0 < wc∨¬ (∀ i:Nat,i < qh.2.2.length→qh.2.2.getD i 0≤h.2.2.getD i 0)))) (by first | (congr 1;symm;rw [decide_eq_true_eq];exact .inl hcw) | (congr 1;rw [← decide_not];rw [decide_eq_decide];exact ⟨.inr,fun q=>q.resolve_left hcw⟩)) ?_)
   refine sY (()) (by trivial) (by exact ⟨rfl,rfl,rfl,rfl,rfl,rfl,rfl,trivial⟩) (by (try simp only [List.cons_append,List.nil_append]);(repeat ((with_reducible apply Z2);focus (first | (with_reducible (repeat (first | exact Z0 | apply Z1));done) | (repeat (first | exact Z0 | apply Z1)))));(repeat (first | exact Z3 | exact Takes.self | refine sS ?_)))
  refine qL (k:=5) rfl rfl rfl rfl υ'99 rfl ζ'50 rfl ?_
  refine qP (j:=5) rfl rfl rfl rfl α'50 Tk Az (by rfl) ?_
  refine qK rfl rfl rfl rfl (qX rfl rfl rfl rfl (qL (k:=1) rfl rfl rfl rfl υ'97 rfl ζ'66 rfl ?_))
  refine qP (j:=1) rfl rfl rfl rfl α'66 Tk Az (by rfl) ?_
  refine qK rfl rfl rfl rfl (kY (sz:=0) (k:=t) (enc:=encH) (xs:=V) rfl rfl rfl rfl rfl υ'66 ζ'50 hh (by first | rfl | omega) Om Tk ?_)
  intro ib61 io61 ha61 hl61 hc61
  refine kQ (v:=(.slice h.1 h.2.2.length h.2.1)) (j:=0) (k':=t) (enc:=encH) (off:=io61) rfl rfl rfl rfl α'50 ha61 kD hh Tk (by first | rfl | exact (Nat.add_zero _).symm | omega) (by rfl) ?_
  have sp_3:=Fr.below_spec qh.2.2 h.2.2 qh.1 h.1 qh.2.2.length h.2.2.length qh.2.1 h.2.1 (bigS (owA 1 encU) M) (inp_rds hPq) (inp_rds hP) Ln Ln Om Om
  refine qM rfl rfl rfl rfl rfl rfl Try.call79 (sp_3) Ts ?_
  rintro ⟨⟩ -
  try simp only [List.cons_append,List.nil_append]
  refine qV (rL rfl rfl rfl rfl ?_)
  refine kC rfl rfl rfl rfl rfl (l_assign rfl rfl rfl rfl ?_)
  refine qV (qS (qW [0,1,2,3,8,9,10] (e':=[(0,_),(1,_),(2,_),(3,_),(8,_),(9,_),(10,_)]) rfl ?_))
  refine qQ (kH 10 rfl (v':=.bool (decide (h.2.2.getD wt 0 < wc∨¬ (∀ i:Nat,i < qh.2.2.length→qh.2.2.getD i 0≤h.2.2.getD i 0)))) (by first | (congr 1;symm;rw [decide_eq_true_eq];exact .inl hcw) | (congr 1;rw [← decide_not];rw [decide_eq_decide];exact ⟨.inr,fun q=>q.resolve_left hcw⟩)) ?_)
  refine sY (()) (by trivial) (by exact ⟨rfl,rfl,rfl,rfl,rfl,rfl,rfl,trivial⟩) (by (try simp only [List.cons_append,List.nil_append]);(repeat ((with_reducible apply Z2);focus (first | (with_reducible (repeat (first | exact Z0 | apply Z1));done) | (repeat (first | exact Z0 | apply Z1)))));(repeat (first | exact Z3 | exact Takes.self | refine sS ?_)))
 rintro ⟨⟩ -
 try simp only [List.cons_append,List.nil_append]
 refine qC (.q 0 (.q 1 (.q 2 (.q 3 (.q 4 (.q 5 (.q 6 ((.l 7 [] (.done)))))))))) Kr ?_
 refine qK rfl rfl rfl rfl (qX rfl rfl rfl rfl (qL (k:=6) rfl rfl rfl rfl υ'97 rfl ζ'3 rfl ?_))
 refine qP (j:=6) rfl rfl rfl rfl α'3 Tk Az (by rfl) ?_
 refine qN rfl rfl rfl rfl rfl (cV _ (by exact kG Om Om)) ?_
 refine qX rfl rfl rfl rfl (qL (k:=6) rfl rfl rfl rfl υ'97 rfl ζ'3 rfl ?_)
 refine kR (j:=6) rfl rfl rfl rfl ζ'3 (us:=[_]) rfl rfl rfl Tk Az (by first | decide | (simp;done) | omega) ?_
 simp only [setL,List.set]
 refine qV (qS (qW [0,1,2,3,8,9,10] (e':=[(0,_),(1,_),(2,_),(3,_),(8,_),(9,_),(10,_)]) rfl ?_))
 refine qQ (qG (qG (qC (.q 0 (.done)) Kr ?_)))
 refine qK rfl rfl rfl rfl (qS (qQ ?_))
 refine qB rfl (fun hrace=>?_) (fun hrace=>?_)
 ·
  refine qC (.q 0 (.q 1 ((.l 2 [] (.done))))) Kr ?_
  refine qK rfl rfl rfl rfl (qK rfl rfl rfl rfl ?_)
  have sp_4:=rflag_spec b b8 (.int .i64 ((wt:Nat):Int)) (.int .i64 ((rt:Nat):Int)) (.int .u64 wc) (.int .u64 rc) (.bool true) (.slice qh.1 qh.2.2.length qh.2.1) fl j
  refine qM rfl rfl rfl rfl rfl rfl κ'78 (sp_4) Ts ?_
  rintro ⟨⟩ -
  try simp only [List.cons_append,List.nil_append]
  refine qV (qS (qW [0,1,2,8,9] (e':=[(0,_),(1,_),(2,_),(8,_),(9,_)]) rfl ?_))
  refine qQ (qG (qG (qC (.q 0 (.q 1 (.done))) Kr ?_)))
  refine qL (k:=4) rfl rfl rfl rfl υ'99 rfl ζ'4 rfl ?_
  refine qP (j:=4) rfl rfl rfl rfl α'4 Tk Az (by rfl) ?_
  refine qS (qQ (cN rfl ?_))
  refine qG (qC (.q 0 ((.l 1 [] (.done)))) Kr ?_)
  refine qL (k:=4) rfl rfl rfl rfl υ'99 rfl ζ'4 rfl ?_
  refine kR (j:=4) rfl rfl rfl rfl ζ'4 (us:=[_]) rfl rfl rfl Tk Az (by first | decide | (simp;done) | omega) ?_
  simp only [setL,List.set]
  refine qV (qS (qQ (qC (.q 0 ((.l 1 [] (.done)))) Kr ?_)))
  refine qL (k:=5) rfl rfl rfl rfl υ'99 rfl ζ'50 rfl ?_
  refine kR (j:=5) rfl rfl rfl rfl ζ'50 (us:=[_]) rfl rfl rfl Tk Az (by first | decide | (simp;done) | omega) ?_
  simp only [setL,List.set]
  refine qV (qS (qW [0,1,2,8,9] (e':=[(0,_),(1,_),(2,_),(8,_),(9,_)]) rfl ?_))
  refine qQ (qG (qC (.q 0 (.q 1 ((.l 2 [] (.done))))) Kr ?_))
  refine qK rfl rfl rfl rfl (qL (k:=0) rfl rfl rfl rfl υ'99 rfl ζ'3 rfl ?_)
  refine kR (j:=0) rfl rfl rfl rfl ζ'3 (us:=[_]) rfl rfl rfl Tk Az (by first | decide | (simp;done) | omega) ?_
  simp only [setL,List.set]
  refine qV (qS (qQ (qG (qC (.q 0 (.q 1 ((.l 2 [] (.done))))) Kr ?_))))
  refine qK rfl rfl rfl rfl (qL (k:=2) rfl rfl rfl rfl υ'99 rfl ζ'48 rfl ?_)
  refine kR (j:=2) rfl rfl rfl rfl ζ'48 (us:=[_]) rfl rfl rfl Tk Az (by first | decide | (simp;done) | omega) ?_
  simp only [setL,List.set]
  refine qV (qS (qW [0,2,8] (e':=[(0,_),(2,_),(8,_)]) rfl ?_))
  refine qQ (kX rfl (.q 0 (.q 1 (.q 2 (.q 3 (.q 4 (.q 5 (.q 6 ((.l 7 [] (.done)))))))))) Kr ?_)
  refine qK rfl rfl rfl rfl (qX rfl rfl rfl rfl (qL (k:=5) rfl rfl rfl rfl υ'97 rfl ζ'95 rfl ?_))
  refine qP (j:=5) rfl rfl rfl rfl α'95 Tk Az (by rfl) ?_
  refine qK rfl rfl rfl rfl (kN rfl rfl rfl rfl α'99 ζ'99 Tk 0 (us:=[_,_,_,_,_,_,_]) Az rfl rfl ?_)
  refine kY (sz:=6) (k:=v) (enc:=encX) (xs:=X) rfl rfl rfl rfl rfl υ'95 ζ'99 hq (by first | rfl | omega) Om Tk ?_
  intro ib107 io107 ha107 hl107 hc107
  refine kJ (j:=0) (k:=v) (q:=(t,rt,(h.2.2.getD t 0),rc,false,h0,flN fl j)) (enc:=encX) (off:=io107) rfl rfl rfl rfl ζ'99 (us:=[_,_,_,_,_,_,_]) rfl rfl rfl ha107 encX_len hq Tk (by first | rfl | exact (Nat.add_zero _).symm | omega) (by first | decide | exact Nat.le_of_ble_eq_true rfl) (by rfl) ?_
  refine qV (qS (qW [] (e':=[]) rfl ?_))
  refine sR ?_
  have hz:=wr_sh (fl':=(flN fl j)) (j:=j) hrv ho hov hc ht hs (by rw [if_pos hrace])
  refine rR rfl (((t,rt,(h.2.2.getD t 0),rc,false,h0,(flN fl j)),[])) (by first | rfl | (first | rfl | (congr 1;done) | (congr 1 <;> first | rfl | omega | (simp;done) | (simp;omega)))) (by exact ⟨hz.1,ok_nil,.inl rfl⟩) ?_
  dsimp only
  rw [hz.2]
  (try rw [Int.add_zero])
  (try rw [List.append_nil])
  exact Tf
 refine qF (qQ (qG (qG (qC (.q 0 (.q 1 (.done))) Kr ?_))))
 refine qL (k:=4) rfl rfl rfl rfl υ'99 rfl ζ'4 rfl ?_
 refine qP (j:=4) rfl rfl rfl rfl α'4 Tk Az (by rfl) ?_
 refine qS (qW [0,1,2,8,9,94] (e':=[(0,_),(1,_),(2,_),(8,_),(9,_),(94,_)]) rfl ?_)
 refine qQ (cN rfl ?_)
 refine qG (qC (.q 0 ((.l 1 [] (.done)))) Kr ?_)
 refine qL (k:=4) rfl rfl rfl rfl υ'99 rfl ζ'4 rfl ?_
 refine kR (j:=4) rfl rfl rfl rfl ζ'4 (us:=[_]) rfl rfl rfl Tk Az (by first | decide | (simp;done) | omega) ?_
 simp only [setL,List.set]
 refine qV (qS (qQ (qC (.q 0 ((.l 1 [] (.done)))) Kr ?_)))
 refine qL (k:=5) rfl rfl rfl rfl υ'99 rfl ζ'50 rfl ?_
 refine kR (j:=5) rfl rfl rfl rfl ζ'50 (us:=[_]) rfl rfl rfl Tk Az (by first | decide | (simp;done) | omega) ?_
 simp only [setL,List.set]
 refine qV (qS (qQ (qG (qC (.q 0 (.q 1 ((.l 2 [] (.done))))) Kr ?_))))
 refine qK rfl rfl rfl rfl (qL (k:=0) rfl rfl rfl rfl υ'99 rfl ζ'3 rfl ?_)
 refine kR (j:=0) rfl rfl rfl rfl ζ'3 (us:=[_]) rfl rfl rfl Tk Az (by first | decide | (simp;done) | omega) ?_
 simp only [setL,List.set]
 refine qV (qS (qW [0,2,8,9] (e':=[(0,_),(2,_),(8,_),(9,_)]) rfl ?_))
 refine qQ (qG (qC (.q 0 (.q 1 ((.l 2 [] (.done))))) Kr ?_))
 refine qK rfl rfl rfl rfl (qL (k:=2) rfl rfl rfl rfl υ'99 rfl ζ'48 rfl ?_)
 refine kR (j:=2) rfl rfl rfl rfl ζ'48 (us:=[_]) rfl rfl rfl Tk Az (by first | decide | (simp;done) | omega) ?_
 simp only [setL,List.set]
 refine qV (qS (qQ (kX rfl (.q 0 (.q 1 (.q 2 (.q 3 (.q 4 (.q 5 (.q 6 ((.l 7 [] (.done)))))))))) Kr ?_)))
 refine qK rfl rfl rfl rfl (qX rfl rfl rfl rfl (qL (k:=5) rfl rfl rfl rfl υ'97 rfl ζ'95 rfl ?_))
 refine qP (j:=5) rfl rfl rfl rfl α'95 Tk Az (by rfl) ?_
 refine qK rfl rfl rfl rfl (kN rfl rfl rfl rfl α'99 ζ'99 Tk 0 (us:=[_,_,_,_,_,_,_]) Az rfl rfl ?_)
 refine kY (sz:=6) (k:=v) (enc:=encX) (xs:=X) rfl rfl rfl rfl rfl υ'95 ζ'99 hq (by first | rfl | omega) Om Tk ?_
 intro ib107 io107 ha107 hl107 hc107
 refine kJ (j:=0) (k:=v) (q:=(t,rt,(h.2.2.getD t 0),rc,false,h0,fl)) (enc:=encX) (off:=io107) rfl rfl rfl rfl ζ'99 (us:=[_,_,_,_,_,_,_]) rfl rfl rfl ha107 encX_len hq Tk (by first | rfl | exact (Nat.add_zero _).symm | omega) (by first | decide | exact Nat.le_of_ble_eq_true rfl) (by rfl) ?_
 refine qV (qS (qW [] (e':=[]) rfl ?_))
 refine sR ?_
 have hz:=wr_sh (fl':=fl) (j:=j) hrv ho hov hc ht hs (by rw [if_neg hrace])
 refine rR rfl (((t,rt,(h.2.2.getD t 0),rc,false,h0,fl),[])) (by first | rfl | (first | rfl | (congr 1;done) | (congr 1 <;> first | rfl | omega | (simp;done) | (simp;omega)))) (by exact ⟨hz.1,ok_nil,.inl rfl⟩) ?_
 dsimp only
 rw [hz.2]
 (try rw [Int.add_zero])
 (try rw [List.append_nil])
 exact Tf
theorem rwrite_un (b n m Vc Xc t v:Nat) (c0 c2 c3 c4:Value) (cost j:Int) (Va Xa:Option Addr) (V M:List H) (X:List RVr) (h qh:H) (wt rt:Nat) (wc rc fl:Int) (w:V4F) (hn:V.length=n) (hm:X.length=m) (hh:V[t]?=some h) (hq:X[v]?=some ((wt,rt,wc,rc,false,qh,fl):RVr)) (ho:OkV h.2.2) (hP:InP M h) (hrv:RelV w (wt,rt,wc,rc,false,qh,fl)) (hov:OkV qh.2.2) (hPq:InP M qh) (ht:t < 65535) (hc:1≤h.2.2.getD t 0) (hcost:0≤cost∧cost≤1000000000000000):Spec Try.prog 40 [.pointer (some ⟨b,0,none⟩),.int .i64 ((t:Nat):Int),.int .i64 ((v:Nat):Int),.int .i64 j] [cells b 0 [c0,.slice Va n Vc,c2,c3,c4,.slice Xa m Xc,.int .i64 cost],own 1 encH Va Vc V,own 7 encX Xa Xc X,bigS (owA 1 encU) M] (fun (r:RVr × List H)=>.tuple #[]) (fun r=>RelV (wrV t (tr h.2.2) j w).1 r.1∧OkV r.1.2.2.2.2.2.1.2.2∧InP (M++r.2) r.1.2.2.2.2.2.1) (fun r=>[cells b 0 [c0,.slice Va n Vc,c2,c3,c4,.slice Xa m Xc,.int .i64 (cost+(wrV t (tr h.2.2) j w).2)],own 1 encH Va Vc V,own 7 encX Xa Xc (X.set v r.1),bigS (owA 1 encU) (M++r.2)]):=by
 refine kP (n:=108) Try.func40 rfl rfl rfl ?_
 intro Γ w0
 simp only [argE,List.cons_append,List.nil_append,Nat.zero_add,Nat.reduceAdd]
 have hil:=(List.getElem?_eq_some_iff.1 hh).1
 have hiv:=(List.getElem?_eq_some_iff.1 hq).1
 have hol:=ho.1
 have hqol:=hov.1
 have hog:=ok_g ho t
 obtain ⟨hwt,hrt⟩:wt < 65535∧rt < 65535:=hrv.th
 obtain ⟨hwc,hrc⟩:(0≤wc∧wc≤maxC)∧0≤rc∧rc≤maxC:=hrv.c
 have hc7:=hog.2
 simp only [maxC] at hwc hrc hc7
 refine qG (qC (.q 0 (.q 1 (.q 2 (.q 3 (.q 4 (.q 5 (.q 6 ((.l 7 [] ((.l 8 [] (.done)))))))))))) Kr ?_)
 refine qK rfl rfl rfl rfl (qX rfl rfl rfl rfl (qL (k:=5) rfl rfl rfl rfl υ'97 rfl ζ'95 rfl ?_))
 refine qP (j:=5) rfl rfl rfl rfl α'95 Tk Az (by rfl) ?_
 refine qK rfl rfl rfl rfl (kY (sz:=6) (k:=v) (enc:=encX) (xs:=X) rfl rfl rfl rfl rfl υ'95 ζ'99 hq (by first | rfl | omega) Om Tk ?_)
 intro ib16 io16 ha16 hl16 hc16
 refine q_loadN_O (j:=0) (k':=v) (us:=[_,_,_,_,_,_,_]) (enc:=encX) (off:=io16) rfl rfl rfl rfl α'99 ζ'99 ha16 encX_len hq Tk (by first | rfl | exact (Nat.add_zero _).symm | omega) (by rfl) rfl ?_
 refine cF rfl rfl rfl ω'99 (zs:=[.int .i64 0,.int .i64 0,.int .u64 0,.int .u64 0,.bool false,.slice none 0 0,.int .i64 0]) rfl ?_
 intro b8
 refine qV (kR (j:=0) rfl rfl rfl rfl ζ'99 (us:=[_,_,_,_,_,_,_]) rfl rfl rfl Tk Az (by first | decide | (simp;done) | omega) ?_)
 simp only [setL,List.set]
 refine qV (qS (qW [0,1,2,3,8] (e':=[(0,_),(1,_),(2,_),(3,_),(8,_)]) rfl ?_))
 refine qQ (qG (qC (.q 0 (.q 1 (.q 2 (.q 3 (.q 4 (.q 5 (.q 6 (.q 7 ((.l 8 [] (.q 9 (.done)))))))))))) Kr ?_))
 refine qK rfl rfl rfl rfl (qX rfl rfl rfl rfl (qL (k:=1) rfl rfl rfl rfl υ'97 rfl ζ'66 rfl ?_))
 refine qP (j:=1) rfl rfl rfl rfl α'66 Tk Az (by rfl) ?_
 refine qK rfl rfl rfl rfl (kY (sz:=0) (k:=t) (enc:=encH) (xs:=V) rfl rfl rfl rfl rfl υ'66 ζ'50 hh (by first | rfl | omega) Om Tk ?_)
 intro ib23 io23 ha23 hl23 hc23
 refine kQ (v:=(.slice h.1 h.2.2.length h.2.1)) (j:=0) (k':=t) (enc:=encH) (off:=io23) rfl rfl rfl rfl α'50 ha23 kD hh Tk (by first | rfl | exact (Nat.add_zero _).symm | omega) (by rfl) ?_
 refine qK rfl rfl rfl rfl ?_
 have sp_1:=Fr.at_spec h.2.2 h.1 h.2.2.length h.2.1 (bigS (owA 1 encU) M) (inp_rds hP) Ln Om t
 refine qM rfl rfl rfl rfl rfl rfl κ'35 (sp_1) Ts ?_
 rintro ⟨⟩ -
 try simp only [List.cons_append,List.nil_append]
 refine qV (qR rfl rfl rfl rfl (qS (qW [0,1,2,3,8,9] (e':=[(0,_),(1,_),(2,_),(3,_),(8,_),(9,_)]) rfl ?_)))
 refine qQ (qG ?_)
 refine c_seqJ (α:=Unit) (fun (z_:Unit)=>True) (fun (z_:Unit)=>[(36,.bool (decide (wc=(h.2.2.getD t 0)∧wt=t)))]) (fun (z_:Unit)=>[]) [0,1,2,3,8,9] (er:=[(0,_),(1,_),(2,_),(3,_),(8,_),(9,_)]) rfl [] Ts ?_ ?_
 ·
  refine qC (.q 0 (.q 1 (.q 2 (.q 3 (.q 4 (.q 5 (.q 6 (.q 7 (.q 8 (.q 9 (.done))))))))))) Kr ?_
  refine qL (k:=2) rfl rfl rfl rfl υ'99 rfl ζ'48 rfl ?_
  refine qP (j:=2) rfl rfl rfl rfl α'48 Tk Az (by rfl) ?_
  refine qK rfl rfl rfl rfl (qN rfl rfl rfl rfl rfl (cS _ _ _ _) ?_)
  refine qK rfl rfl rfl rfl ?_
  refine cL 31 rfl (fun hs1=>?_) (fun hs1=>?_)
  ·
   refine qL (k:=0) rfl rfl rfl rfl υ'99 rfl ζ'3 rfl ?_
   refine qP (j:=0) rfl rfl rfl rfl α'3 Tk Az (by rfl) ?_
   refine qK rfl rfl rfl rfl (qN rfl rfl rfl rfl rfl (cS _ _ _ _) ?_)
   refine kZ rfl rfl rfl rfl rfl (qS (qW [0,1,2,3,8,9,36] (e':=[(0,_),(1,_),(2,_),(3,_),(8,_),(9,_),(36,_)]) rfl ?_))
   refine qQ (kH 36 rfl (v':=.bool (decide (wc=(h.2.2.getD t 0)∧wt=t))) (by congr 1;symm;first | (rw [decide_eq_true_eq];exact ⟨hs1,by omega⟩) | (rw [decide_eq_false_iff_not];intro q;first | exact hs1 q.1 | (apply hs2;omega)) | (rw [decide_eq_decide];constructor <;> intro q <;> first | (exact ⟨hs1,by omega⟩) | (have:=q.2;omega))) ?_)
   refine sY (()) (by trivial) (by exact ⟨rfl,rfl,rfl,rfl,rfl,rfl,rfl,trivial⟩) (by (try simp only [List.cons_append,List.nil_append]);(repeat ((with_reducible apply Z2);focus (first | (with_reducible (repeat (first | exact Z0 | apply Z1));done) | (repeat (first | exact Z0 | apply Z1)))));(repeat (first | exact Z3 | exact Takes.self | refine sS ?_)))
  refine qY rfl rfl rfl rfl (qY rfl rfl rfl rfl (qY rfl rfl rfl rfl (qY rfl rfl rfl rfl (kC rfl rfl rfl rfl rfl (qS (qW [0,1,2,3,8,9,36] (e':=[(0,_),(1,_),(2,_),(3,_),(8,_),(9,_),(36,_)]) rfl ?_))))))
  refine qQ (kH 36 rfl (v':=.bool (decide (wc=(h.2.2.getD t 0)∧wt=t))) (by congr 1;symm;first | (rw [decide_eq_true_eq];exact ⟨hs1,by omega⟩) | (rw [decide_eq_false_iff_not];intro q;first | exact hs1 q.1 | (apply hs2;omega)) | (rw [decide_eq_decide];constructor <;> intro q <;> first | (exact ⟨hs1,by omega⟩) | (have:=q.2;omega))) ?_)
  refine sY (()) (by trivial) (by exact ⟨rfl,rfl,rfl,rfl,rfl,rfl,rfl,trivial⟩) (by (try simp only [List.cons_append,List.nil_append]);(repeat ((with_reducible apply Z2);focus (first | (with_reducible (repeat (first | exact Z0 | apply Z1));done) | (repeat (first | exact Z0 | apply Z1)))));(repeat (first | exact Z3 | exact Takes.self | refine sS ?_)))
 rintro ⟨⟩ -
 try simp only [List.cons_append,List.nil_append]
 refine qB rfl (fun hs=>?_) (fun hs=>?_)
 ·
  refine qJ (qD ?_)
  have hz:=wr_same (j:=j) hrv ho hc hs
  refine rR rfl (((wt,rt,wc,rc,false,qh,fl),[])) (by first | rfl | (first | rfl | (congr 1;done) | (congr 1 <;> first | rfl | omega | (simp;done) | (simp;omega)))) (by exact ⟨by rw [hz];exact hrv,hov,inp_more (fun _ hm_=>List.mem_append_left _ hm_) hPq⟩) ?_
  dsimp only
  rw [hz,sM hq,List.append_nil,Int.add_zero]
  exact Tf
 refine qF (qQ (qG (kX rfl (.q 0 (.q 1 (.q 2 (.q 3 (.q 4 (.q 5 (.q 6 (.q 7 (.q 8 (.q 9 (.q 10 ((.l 11 [1] (.q 12 (.q 13 (.done)))))))))))))))) Kr ?_)))
 refine qL (k:=2) rfl rfl rfl rfl υ'99 rfl ζ'48 rfl ?_
 refine qP (j:=2) rfl rfl rfl rfl α'48 Tk Az (by rfl) ?_
 refine qK rfl rfl rfl rfl (qX rfl rfl rfl rfl (qL (k:=1) rfl rfl rfl rfl υ'97 rfl ζ'66 rfl ?_))
 refine qP (j:=1) rfl rfl rfl rfl α'66 Tk Az (by rfl) ?_
 refine qK rfl rfl rfl rfl (kY (sz:=0) (k:=t) (enc:=encH) (xs:=V) rfl rfl rfl rfl rfl υ'66 ζ'50 hh (by first | rfl | omega) Om Tk ?_)
 intro ib44 io44 ha44 hl44 hc44
 refine kQ (v:=(.slice h.1 h.2.2.length h.2.1)) (j:=0) (k':=t) (enc:=encH) (off:=io44) rfl rfl rfl rfl α'50 ha44 kD hh Tk (by first | rfl | exact (Nat.add_zero _).symm | omega) (by rfl) ?_
 refine qL (k:=0) rfl rfl rfl rfl υ'99 rfl ζ'3 rfl ?_
 refine qP (j:=0) rfl rfl rfl rfl α'3 Tk Az (by rfl) ?_
 have sp_2:=Fr.at_spec h.2.2 h.1 h.2.2.length h.2.1 (bigS (owA 1 encU) M) (inp_rds hP) Ln Om wt
 refine qM rfl rfl rfl rfl rfl rfl κ'35 (sp_2) Ts ?_
 rintro ⟨⟩ -
 try simp only [List.cons_append,List.nil_append]
 refine qH (q:=2) rfl rfl rfl α'48 Tk Az (by rfl) ?_
 refine qV (qN rfl rfl rfl rfl rfl (b_gtr _ _ _ _) ?_)
 refine qR rfl rfl rfl rfl (qS (qW [0,1,2,3,8,9,10] (e':=[(0,_),(1,_),(2,_),(3,_),(8,_),(9,_),(10,_)]) rfl ?_))
 refine qQ ?_
 refine c_seqJ (α:=Unit) (fun (z_:Unit)=>True) (fun (z_:Unit)=>[(10,.bool (decide (h.2.2.getD wt 0 < wc∨h.2.2.getD rt 0 < rc)))]) (fun (z_:Unit)=>[]) [0,1,2,3,8,9] (er:=[(0,_),(1,_),(2,_),(3,_),(8,_),(9,_)]) rfl [] Ts ?_ ?_
 ·
  refine qG (qC (.q 0 (.q 1 (.done))) Kr ?_)
  refine qL (k:=4) rfl rfl rfl rfl υ'99 rfl ζ'4 rfl ?_
  refine qP (j:=4) rfl rfl rfl rfl α'4 Tk Az (by rfl) ?_
  refine qS (qQ (kB rfl ?_))
  refine kX rfl (.q 0 (.q 1 (.q 2 (.q 3 (.q 4 (.q 5 (.q 6 (.q 7 (.q 8 (.q 9 (.q 10 (.q 11 (.q 12 ((.l 13 [3] (.q 14 (.q 15 ((.l 16 [] (.done)))))))))))))))))))) Kr ?_
  refine qK rfl rfl rfl rfl (qK rfl rfl rfl rfl ?_)
  refine cL 74 rfl (fun hcw=>?_) (fun hcw=>?_)
  ·
   refine qY rfl rfl rfl rfl (qY rfl rfl rfl rfl (qY rfl rfl rfl rfl (qY rfl rfl rfl rfl (qY rfl rfl rfl rfl (qY rfl rfl rfl rfl (qY rfl rfl rfl rfl (qY rfl rfl rfl rfl (qY rfl rfl rfl rfl ?_))))))))
   refine qY rfl rfl rfl rfl (qY rfl rfl rfl rfl (sZ rfl rfl rfl rfl ?_))
   refine qY rfl rfl rfl rfl (kZ rfl rfl rfl rfl rfl (l_assign rfl rfl rfl rfl ?_))
   refine qV (qS (qW [0,1,2,3,8,9,10] (e':=[(0,_),(1,_),(2,_),(3,_),(8,_),(9,_),(10,_)]) rfl ?_))
   refine qQ (kH 10 rfl (v':=.bool (decide (h.2.2.getD wt 0 < wc∨h.2.2.getD rt 0 < rc))) (by first | (congr 1;symm;rw [decide_eq_true_eq];exact .inl hcw) | (congr 1;rw [decide_eq_decide];exact ⟨.inr,fun q=>q.resolve_left hcw⟩)) ?_)
   refine sY (()) (by trivial) (by exact ⟨rfl,rfl,rfl,rfl,rfl,rfl,rfl,trivial⟩) (by (try simp only [List.cons_append,List.nil_append]);(repeat ((with_reducible apply Z2);focus (first | (with_reducible (repeat (first | exact Z0 | apply Z1));done) | (repeat (first | exact Z0 | apply Z1)))));(repeat (first | exact Z3 | exact Takes.self | refine sS ?_)))
  refine qL (k:=3) rfl rfl rfl rfl υ'99 rfl ζ'48 rfl ?_
  refine qP (j:=3) rfl rfl rfl rfl α'48 Tk Az (by rfl) ?_
  refine qK rfl rfl rfl rfl (qX rfl rfl rfl rfl (qL (k:=1) rfl rfl rfl rfl υ'97 rfl ζ'66 rfl ?_))
  refine qP (j:=1) rfl rfl rfl rfl α'66 Tk Az (by rfl) ?_
  refine qK rfl rfl rfl rfl (kY (sz:=0) (k:=t) (enc:=encH) (xs:=V) rfl rfl rfl rfl rfl υ'66 ζ'50 hh (by first | rfl | omega) Om Tk ?_)
  intro ib82 io82 ha82 hl82 hc82
  refine kQ (v:=(.slice h.1 h.2.2.length h.2.1)) (j:=0) (k':=t) (enc:=encH) (off:=io82) rfl rfl rfl rfl α'50 ha82 kD hh Tk (by first | rfl | exact (Nat.add_zero _).symm | omega) (by rfl) ?_
  refine qL (k:=1) rfl rfl rfl rfl υ'99 rfl ζ'3 rfl ?_
  refine qP (j:=1) rfl rfl rfl rfl α'3 Tk Az (by rfl) ?_
  have sp_3:=Fr.at_spec h.2.2 h.1 h.2.2.length h.2.1 (bigS (owA 1 encU) M) (inp_rds hP) Ln Om rt
  refine qM rfl rfl rfl rfl rfl rfl κ'35 (sp_3) Ts ?_
  rintro ⟨⟩ -
  try simp only [List.cons_append,List.nil_append]
  refine qH (q:=3) rfl rfl rfl α'48 Tk Az (by rfl) ?_
  refine qV (qN rfl rfl rfl rfl rfl (b_gtr _ _ _ _) ?_)
  refine kC rfl rfl rfl rfl rfl (l_assign rfl rfl rfl rfl ?_)
  refine qV (qS (qW [0,1,2,3,8,9,10] (e':=[(0,_),(1,_),(2,_),(3,_),(8,_),(9,_),(10,_)]) rfl ?_))
  refine qQ (kH 10 rfl (v':=.bool (decide (h.2.2.getD wt 0 < wc∨h.2.2.getD rt 0 < rc))) (by first | (congr 1;symm;rw [decide_eq_true_eq];exact .inl hcw) | (congr 1;rw [decide_eq_decide];exact ⟨.inr,fun q=>q.resolve_left hcw⟩)) ?_)
  refine sY (()) (by trivial) (by exact ⟨rfl,rfl,rfl,rfl,rfl,rfl,rfl,trivial⟩) (by (try simp only [List.cons_append,List.nil_append]);(repeat ((with_reducible apply Z2);focus (first | (with_reducible (repeat (first | exact Z0 | apply Z1));done) | (repeat (first | exact Z0 | apply Z1)))));(repeat (first | exact Z3 | exact Takes.self | refine sS ?_)))
 rintro ⟨⟩ -
 try simp only [List.cons_append,List.nil_append]
 refine qG (qG (qC (.q 0 (.done)) Kr ?_))
 refine qK rfl rfl rfl rfl (qS (qQ ?_))
 refine qB rfl (fun hrace=>?_) (fun hrace=>?_)
 ·
  refine qC (.q 0 (.q 1 ((.l 2 [] (.done))))) Kr ?_
  refine qK rfl rfl rfl rfl (qK rfl rfl rfl rfl ?_)
  have sp_4:=rflag_spec b b8 (.int .i64 ((wt:Nat):Int)) (.int .i64 ((rt:Nat):Int)) (.int .u64 wc) (.int .u64 rc) (.bool false) (.slice qh.1 qh.2.2.length qh.2.1) fl j
  refine qM rfl rfl rfl rfl rfl rfl κ'78 (sp_4) Ts ?_
  rintro ⟨⟩ -
  try simp only [List.cons_append,List.nil_append]
  refine qV (qS (qW [0,1,2,8,9] (e':=[(0,_),(1,_),(2,_),(8,_),(9,_)]) rfl ?_))
  refine qQ (qG (qG (qC (.q 0 (.q 1 (.done))) Kr ?_)))
  refine qL (k:=4) rfl rfl rfl rfl υ'99 rfl ζ'4 rfl ?_
  refine qP (j:=4) rfl rfl rfl rfl α'4 Tk Az (by rfl) ?_
  refine qS (qQ (kB rfl ?_))
  refine qF (qQ (qG (qC (.q 0 (.q 1 ((.l 2 [] (.done))))) Kr ?_)))
  refine qK rfl rfl rfl rfl (qL (k:=0) rfl rfl rfl rfl υ'99 rfl ζ'3 rfl ?_)
  refine kR (j:=0) rfl rfl rfl rfl ζ'3 (us:=[_]) rfl rfl rfl Tk Az (by first | decide | (simp;done) | omega) ?_
  simp only [setL,List.set]
  refine qV (qS (qW [0,2,8,9] (e':=[(0,_),(2,_),(8,_),(9,_)]) rfl ?_))
  refine qQ (qG (qC (.q 0 (.q 1 ((.l 2 [] (.done))))) Kr ?_))
  refine qK rfl rfl rfl rfl (qL (k:=2) rfl rfl rfl rfl υ'99 rfl ζ'48 rfl ?_)
  refine kR (j:=2) rfl rfl rfl rfl ζ'48 (us:=[_]) rfl rfl rfl Tk Az (by first | decide | (simp;done) | omega) ?_
  simp only [setL,List.set]
  refine qV (qS (qQ (kX rfl (.q 0 (.q 1 (.q 2 (.q 3 (.q 4 (.q 5 (.q 6 ((.l 7 [] (.done)))))))))) Kr ?_)))
  refine qK rfl rfl rfl rfl (qX rfl rfl rfl rfl (qL (k:=5) rfl rfl rfl rfl υ'97 rfl ζ'95 rfl ?_))
  refine qP (j:=5) rfl rfl rfl rfl α'95 Tk Az (by rfl) ?_
  refine qK rfl rfl rfl rfl (kN rfl rfl rfl rfl α'99 ζ'99 Tk 0 (us:=[_,_,_,_,_,_,_]) Az rfl rfl ?_)
  refine kY (sz:=6) (k:=v) (enc:=encX) (xs:=X) rfl rfl rfl rfl rfl υ'95 ζ'99 hq (by first | rfl | omega) Om Tk ?_
  intro ib107 io107 ha107 hl107 hc107
  refine kJ (j:=0) (k:=v) (q:=(t,rt,(h.2.2.getD t 0),rc,false,qh,flN fl j)) (enc:=encX) (off:=io107) rfl rfl rfl rfl ζ'99 (us:=[_,_,_,_,_,_,_]) rfl rfl rfl ha107 encX_len hq Tk (by first | rfl | exact (Nat.add_zero _).symm | omega) (by first | decide | exact Nat.le_of_ble_eq_true rfl) (by rfl) ?_
  refine qV (qS (qW [] (e':=[]) rfl ?_))
  refine sR ?_
  have hz:=wr_un (fl':=(flN fl j)) (j:=j) hrv ho hc ht hs (by rw [if_pos hrace])
  refine rR rfl (((t,rt,(h.2.2.getD t 0),rc,false,qh,(flN fl j)),[])) (by first | rfl | (first | rfl | (congr 1;done) | (congr 1 <;> first | rfl | omega | (simp;done) | (simp;omega)))) (by exact ⟨hz.1,hov,inp_more (fun _ hm_=>List.mem_append_left _ hm_) hPq⟩) ?_
  dsimp only
  rw [hz.2]
  (try rw [Int.add_zero])
  (try rw [List.append_nil])
  exact Tf
 refine qF (qQ (qG (qG (qC (.q 0 (.q 1 (.done))) Kr ?_))))
 refine qL (k:=4) rfl rfl rfl rfl υ'99 rfl ζ'4 rfl ?_
 refine qP (j:=4) rfl rfl rfl rfl α'4 Tk Az (by rfl) ?_
 refine qS (qW [0,1,2,8,9,94] (e':=[(0,_),(1,_),(2,_),(8,_),(9,_),(94,_)]) rfl ?_)
 refine qQ (kB rfl ?_)
 refine qF (qQ (qG (qC (.q 0 (.q 1 ((.l 2 [] (.done))))) Kr ?_)))
 refine qK rfl rfl rfl rfl (qL (k:=0) rfl rfl rfl rfl υ'99 rfl ζ'3 rfl ?_)
 refine kR (j:=0) rfl rfl rfl rfl ζ'3 (us:=[_]) rfl rfl rfl Tk Az (by first | decide | (simp;done) | omega) ?_
 simp only [setL,List.set]
 refine qV (qS (qW [0,2,8,9] (e':=[(0,_),(2,_),(8,_),(9,_)]) rfl ?_))
 refine qQ (qG (qC (.q 0 (.q 1 ((.l 2 [] (.done))))) Kr ?_))
 refine qK rfl rfl rfl rfl (qL (k:=2) rfl rfl rfl rfl υ'99 rfl ζ'48 rfl ?_)
 refine kR (j:=2) rfl rfl rfl rfl ζ'48 (us:=[_]) rfl rfl rfl Tk Az (by first | decide | (simp;done) | omega) ?_
 simp only [setL,List.set]
 refine qV (qS (qQ (kX rfl (.q 0 (.q 1 (.q 2 (.q 3 (.q 4 (.q 5 (.q 6 ((.l 7 [] (.done)))))))))) Kr ?_)))
 refine qK rfl rfl rfl rfl (qX rfl rfl rfl rfl (qL (k:=5) rfl rfl rfl rfl υ'97 rfl ζ'95 rfl ?_))
 refine qP (j:=5) rfl rfl rfl rfl α'95 Tk Az (by rfl) ?_
 refine qK rfl rfl rfl rfl (kN rfl rfl rfl rfl α'99 ζ'99 Tk 0 (us:=[_,_,_,_,_,_,_]) Az rfl rfl ?_)
 refine kY (sz:=6) (k:=v) (enc:=encX) (xs:=X) rfl rfl rfl rfl rfl υ'95 ζ'99 hq (by first | rfl | omega) Om Tk ?_
 intro ib107 io107 ha107 hl107 hc107
 refine kJ (j:=0) (k:=v) (q:=(t,rt,(h.2.2.getD t 0),rc,false,qh,fl)) (enc:=encX) (off:=io107) rfl rfl rfl rfl ζ'99 (us:=[_,_,_,_,_,_,_]) rfl rfl rfl ha107 encX_len hq Tk (by first | rfl | exact (Nat.add_zero _).symm | omega) (by first | decide | exact Nat.le_of_ble_eq_true rfl) (by rfl) ?_
 refine qV (qS (qW [] (e':=[]) rfl ?_))
 refine sR ?_
 have hz:=wr_un (fl':=fl) (j:=j) hrv ho hc ht hs (by rw [if_neg hrace])
 refine rR rfl (((t,rt,(h.2.2.getD t 0),rc,false,qh,fl),[])) (by first | rfl | (first | rfl | (congr 1;done) | (congr 1 <;> first | rfl | omega | (simp;done) | (simp;omega)))) (by exact ⟨hz.1,hov,inp_more (fun _ hm_=>List.mem_append_left _ hm_) hPq⟩) ?_
 dsimp only
 rw [hz.2]
 (try rw [Int.add_zero])
 (try rw [List.append_nil])
 exact Tf
end Go.Ab.Fr
set_option linter.unusedVariables false
set_option linter.unusedSimpArgs false
set_option maxRecDepth 100000
namespace Go.Ab.Fr
open Go Go.Proofs Go.Ab Go.Ab.Fe Go.Ab.Vc Go.Ab.Dj Go.Ab.Fa
theorem op_keep {x:CS} (hx:CInv x) {k t o:Int} (hc:canF x k t o) (k9:k≠9) {b:Int} (hb:0≤b):opF (nxF x k t o) b=opF x b:=by
  rw [opF_next hx hc hb,if_neg (fun q=>k9 q.1)]
theorem jn_mg {m:Option (List Int)} {l:List Int} (hl:CV l) (h:∀ q,m=some q→CV q):jn l (m.getD [])=mgF m l:=by
  cases m with
  | none=>show jn l []=l;rw [jn_comm hl nil_cv];exact jn_nil hl
  | some q=>rfl
theorem ic_st {l:List Int} {t:Nat} (hl:CV l) (ht:t < 65535) (h:l.getD t 0 < maxC):stL l t (l.getD t 0+1)=icL l t:=by
  have hg:=g_rng hl.rng (by decide) t
  exact Tr_ext (stL_cv hl ht Om Om).tr (icL_cv hl ht h).tr fun k=>by rw [stL_g,icL_g]
/-- What more leaves. -/
theorem tr_more {l:List Int} (h:OkV l) {t:Nat} (ht:t < 65535) (hm:l.getD t 0 < maxC):tr (withL l t (l.getD t 0+1))=icL (tr l) t:=by
  have hg:=ok_g h t
  rw [tr_with h ht Om Om,← ic_st (ok_cv h) ht (by rw [tr_g];exact hm),tr_g]
theorem rl_set {l:List H} {T T':Int→Option (List Int)} {i:Nat} {h:H} (hV:∀ (t:Nat) q,l[t]?=some q→OkV q.2.2∧tr q.2.2=(T (t:Int)).getD []) (ho:OkV h.2.2) (he:tr h.2.2=(T' (i:Int)).getD []) (hne:∀ u:Nat,u≠i→T' (u:Int)=T (u:Int)) :
    ∀ (t:Nat) q,(l.set i h)[t]?=some q→OkV q.2.2∧tr q.2.2=(T' (t:Int)).getD []:=by
  intro t q hq
  have hi:=(List.getElem?_eq_some_iff.1 hq).1
  rw [List.length_set] at hi
  by_cases e:t=i
  · subst e
    rw [List.getElem?_set_self hi] at hq
    cases hq;exact ⟨ho,he⟩
  · rw [List.getElem?_set_ne (Ne.symm e)] at hq
    obtain ⟨a,b⟩:=hV t q hq
    exact ⟨a,by rw [b,hne t e]⟩
theorem upd_nat {ν:Type} {T:Int→Option ν} {i:Nat} {v:Option ν} {u:Nat} (h:u≠i):upd T (i:Int) v (u:Int)=T (u:Int):=sB (fun e=>h Om)
/-- All but the rounds. -/
structure RelA (c:CS) (th lk vo:Int→Option (List Int)) (Y:List V4F) (V L O:List H) (X:List RVr):Prop where
  Vn:(V.length:Int)=c.th
  V:∀ (t:Nat) h,V[t]?=some h→OkV h.2.2∧tr h.2.2=(th (t:Int)).getD []
  Ln:(L.length:Int)=c.lk
  L:∀ (o:Nat) h,L[o]?=some h→OkV h.2.2∧tr h.2.2=(lk (o:Int)).getD []
  On:(O.length:Int)=c.vo
  O:∀ (o:Nat) h,O[o]?=some h→OkV h.2.2∧tr h.2.2=(vo (o:Int)).getD []
  Xn:X.length=Y.length
  X:∀ (i:Nat) w q,Y[i]?=some w→X[i]?=some q→RelV w q∧OkV q.2.2.2.2.2.1.2.2
structure RelR (c:CS) (rd:Int × Int→Option (List Int × Int)) (R:List RRd):Prop where
  Rl:(R.length:Int)≤c.n
  Rd:(R.map fun q=>(q.1,q.2.1)).Nodup
  Rk:∀ q∈R,OkV q.2.2.2.2∧(0≤q.1∧q.2.1≤(opF c q.1).1)∧∀ p,rd (q.1,q.2.1)=some p→tr q.2.2.2.2=p.1
  Re:∀ o n p,rd (o,n)=some p→∃ h,(o,n,h)∈R
  Rc:∀ q∈R,q.2.1=(opF c q.1).1→(rd (q.1,q.2.1)).isSome=true
theorem rel_iff {x:FS} {r:RS}:Rel x r↔RelA x.v.ck x.v.th x.v.lk x.v.vo x.vs r.V r.L r.O r.X∧RelR x.v.ck x.v.rd r.R :=
  ⟨fun h=>⟨⟨h.Vn,h.V,h.Ln,h.L,h.On,h.O,h.Xn,h.X⟩,⟨h.Rl,h.Rd,h.Rk,h.Re,h.Rc⟩⟩,fun ⟨a,b⟩=>⟨a.Vn,a.V,a.Ln,a.L,a.On,a.O,a.Xn,a.X,b.Rl,b.Rd,b.Rk,b.Re,b.Rc⟩⟩
theorem relA_next {c:CS} {th lk vo:Int→Option (List Int)} {Y:List V4F} {V L O:List H} {X:List RVr} (h:RelA c th lk vo Y V L O X) (k t o:Int):RelA (nxF c k t o) th lk vo Y V L O X:=by
  obtain ⟨-,h1,h2,h3,h4⟩:=nxF_pa c k t o
  exact ⟨by rw [h1];exact h.Vn,h.V,by rw [h4];exact h.Ln,h.L,by rw [h3];exact h.On,h.O,h.Xn,h.X⟩
section
variable {c:CS} {th lk vo:Int→Option (List Int)} {Y:List V4F} {V L O:List H} {X:List RVr} {i:Nat} {h:H} {l:List Int}
theorem relA_V (hA:RelA c th lk vo Y V L O X) (ho:OkV h.2.2) (he:tr h.2.2=l):RelA c (upd th (i:Int) (some l)) lk vo Y (V.set i h) L O X :=
  ⟨by rw [List.length_set];exact hA.Vn,rl_set hA.V ho (by rw [sQ];exact he) (fun u hu=>upd_nat hu),hA.Ln,hA.L,hA.On,hA.O,hA.Xn,hA.X⟩
theorem relA_L (hA:RelA c th lk vo Y V L O X) (ho:OkV h.2.2) (he:tr h.2.2=l):RelA c th (upd lk (i:Int) (some l)) vo Y V (L.set i h) O X :=
  ⟨hA.Vn,hA.V,by rw [List.length_set];exact hA.Ln,rl_set hA.L ho (by rw [sQ];exact he) (fun u hu=>upd_nat hu),hA.On,hA.O,hA.Xn,hA.X⟩
theorem relA_O (hA:RelA c th lk vo Y V L O X) (ho:OkV h.2.2) (he:tr h.2.2=l):RelA c th lk (upd vo (i:Int) (some l)) Y V L (O.set i h) X :=
  ⟨hA.Vn,hA.V,hA.Ln,hA.L,by rw [List.length_set];exact hA.On,rl_set hA.O ho (by rw [sQ];exact he) (fun u hu=>upd_nat hu),hA.Xn,hA.X⟩
theorem relA_X (hA:RelA c th lk vo Y V L O X) {w:V4F} {q:RVr} (hw:RelV w q) (ho:OkV q.2.2.2.2.2.1.2.2):RelA c th lk vo (Y.set i w) V L O (X.set i q) :=
  ⟨hA.Vn,hA.V,hA.Ln,hA.L,hA.On,hA.O,by rw [List.length_set,List.length_set];exact hA.Xn,fun j w2 q2 h1 h2=>by
    by_cases e:j=i
    · subst e
      have a:=(List.getElem?_eq_some_iff.1 h1).1
      have b:=(List.getElem?_eq_some_iff.1 h2).1
      rw [List.length_set] at a b
      rw [List.getElem?_set_self a] at h1
      rw [List.getElem?_set_self b] at h2
      cases h1;cases h2;exact ⟨hw,ho⟩
    · rw [List.getElem?_set_ne (Ne.symm e)] at h1 h2
      exact hA.X j w2 q2 h1 h2⟩
end
theorem relR_keep {c:CS} {rd:Int × Int→Option (List Int × Int)} {R:List RRd} (h:RelR c rd R) (hx:CInv c) {k t o:Int} (hc:canF c k t o) (k9:k≠9):RelR (nxF c k t o) rd R :=
  ⟨by have:=h.Rl;rw [(nx_all hc).1];omega,h.Rd,fun q hq=>by
    obtain ⟨a,⟨b0,b⟩,d⟩:=h.Rk q hq
    exact ⟨a,⟨b0,by rw [op_keep hx hc k9 b0];exact b⟩,d⟩,h.Re,fun q hq e=>h.Rc q hq (by rw [op_keep hx hc k9 (h.Rk q hq).2.1.1] at e;exact e)⟩
/-- Behind a Depart. -/
theorem relR_dep {c:CS} {rd:Int × Int→Option (List Int × Int)} {R:List RRd} (h:RelR c rd R) {o r0:Int} {p:List Int × Int} (hp:rd (o,r0)=some p) (hlt:r0 < (opF c o).1) (q0:Option (List Int × Int)) (hq0:∀ s,q0=some s→s.1=p.1):RelR c (upd rd (o,r0) q0) R :=
  ⟨h.Rl,h.Rd,fun q hq=>by
    obtain ⟨a,b,d⟩:=h.Rk q hq
    refine ⟨a,b,fun s hs=>?_⟩
    rcases upd_some hs with ⟨e,hs⟩ | ⟨-,hs⟩
    · rw [hq0 s hs];exact d p (by rw [e];exact hp)
    · exact d s hs,fun o2 n s hs=>by
    rcases upd_some hs with ⟨e,-⟩ | ⟨-,hs⟩
    · simp only [Prod.mk.injEq] at e
      rw [e.1,e.2];exact h.Re o r0 p hp
    · exact h.Re o2 n s hs,fun q hq e=>by
    have hne:(q.1,q.2.1)≠(o,r0):=fun e2=>by
      simp only [Prod.mk.injEq] at e2
      rw [e2.1,e2.2] at e;omega
    rw [sB hne];exact h.Rc q hq e⟩
/-- Behind an Arrive. -/
theorem relR_arr {c:CS} (hx:CInv c) {rd:Int × Int→Option (List Int × Int)} {R R':List RRd} (h:RelR c rd R) {k t o:Int} (hk:k=9) (hc:canF c k t o) {l:List Int} {z:Int} (hl:(R'.length:Int)≤c.n+1) (hd:(R'.map fun q=>(q.1,q.2.1)).Nodup)
    (h1:∀ q∈R',(q∈R∧(q.1,q.2.1)≠(o,(opF c o).1))∨(q.1=o∧q.2.1=(opF c o).1∧OkV q.2.2.2.2∧tr q.2.2.2.2=l)) (h2:∀ q∈R,(q.1,q.2.1)≠(o,(opF c o).1)→q∈R') (h3:∃ g,(o,(opF c o).1,g)∈R') :
    RelR (nxF c k t o) (upd rd (o,(opF c o).1) (some (l,z))) R':=by
  subst hk
  obtain ⟨o5,o7,o9,o10,o11⟩:=can_obj hx hc
  obtain ⟨p0,p1,p2,p3⟩:=o9 rfl
  have hop:∀ b:Int,0≤b→(opF c b).1≤(opF (nxF c 9 t o) b).1:=fun b hb=>by
    rw [opF_next hx hc hb]
    split
    · rename_i e
      rw [e.2];unfold arrF;split
      · show _≤_+1;omega
      · exact Int.le_refl _
    · exact Int.le_refl _
  refine ⟨by rw [(nx_all hc).1];exact hl,hd,fun q hq=>?_,fun o2 n s hs=>?_,fun q hq e=>?_⟩
  · rcases h1 q hq with ⟨hm,hne⟩ | ⟨e1,e2,a,b⟩
    · obtain ⟨a,⟨b0,b⟩,d⟩:=h.Rk q hm
      exact ⟨a,⟨b0,Int.le_trans b (hop _ b0)⟩,fun s hs=>d s (by rwa [sB hne] at hs)⟩
    · refine ⟨a,⟨by omega,by rw [e2,e1];exact hop _ p0⟩,fun s hs=>?_⟩
      rw [e1,e2,sQ] at hs;cases hs;exact b
  · rcases upd_some hs with ⟨e,-⟩ | ⟨hne,hs⟩
    · simp only [Prod.mk.injEq] at e
      rw [e.1,e.2];exact h3
    · obtain ⟨g,hg⟩:=h.Re o2 n s hs
      exact ⟨g,h2 _ hg hne⟩
  · rcases h1 q hq with ⟨hm,hne⟩ | ⟨e1,e2,a,b⟩
    · rw [sB hne]
      obtain ⟨-,⟨b0,b⟩,-⟩:=h.Rk q hm
      refine h.Rc q hm ?_
      rw [opF_next hx hc b0] at e
      split at e
      · rename_i e3
        unfold arrF at e
        rw [e3.2] at b
        split at e
        · simp only at e;omega
        · rw [e,e3.2]
      · exact e
    · rw [e1,e2,sQ];rfl
theorem key_inj {R:List RRd} (hd:(R.map fun q=>(q.1,q.2.1)).Nodup) {i j:Nat} {a b:RRd} (hi:R[i]?=some a) (hj:R[j]?=some b) (e:(a.1,a.2.1)=(b.1,b.2.1)):i=j:=by
  have h1:(R.map fun q=>(q.1,q.2.1))[i]?=some (a.1,a.2.1):=by rw [List.getElem?_map,hi];rfl
  have h2:(R.map fun q=>(q.1,q.2.1))[j]?=some (b.1,b.2.1):=by rw [List.getElem?_map,hj];rfl
  exact (List.getElem?_inj (List.getElem?_eq_some_iff.1 h1).1 hd).1 (by rw [h1,h2,e])
theorem arr_yes {c:CS} (hx:CInv c) {rd:Int × Int→Option (List Int × Int)} {R:List RRd} (h:RelR c rd R) {k t o:Int} (hk:k=9) (hc:canF c k t o) {i:Nat} {q:RRd} (hq:R[i]?=some q) (e1:q.1=o) (e2:q.2.1=(opF c o).1) {g:H} {l:List Int} {z:Int} (ho:OkV g.2.2) (he:tr g.2.2=l) :
    RelR (nxF c k t o) (upd rd (o,(opF c o).1) (some (l,z))) (R.set i (q.1,q.2.1,g)):=by
  subst hk
  have hi:=(List.getElem?_eq_some_iff.1 hq).1
  have hm:(R.set i (q.1,q.2.1,g)).map (fun q=>(q.1,q.2.1))=R.map fun q=>(q.1,q.2.1):=by
    rw [List.map_set]
    refine sM ?_
    rw [List.getElem?_map,hq];rfl
  refine relR_arr hx h rfl hc (by rw [List.length_set];have:=h.Rl;omega) (by rw [hm];exact h.Rd) (fun a ha=>?_) (fun a ha hne=>?_) ⟨g,?_⟩
  · obtain ⟨j,hj⟩:=List.getElem?_of_mem ha
    by_cases e:j=i
    · subst e
      rw [List.getElem?_set_self hi] at hj
      cases hj;exact .inr ⟨e1,e2,ho,he⟩
    · rw [List.getElem?_set_ne (Ne.symm e)] at hj
      exact .inl ⟨List.mem_of_getElem? hj,fun e3=>e (key_inj h.Rd hj hq (by rw [e3,e1,e2]))⟩
  · obtain ⟨j,hj⟩:=List.getElem?_of_mem ha
    have e:j≠i:=fun e=>by
      subst e;rw [hq] at hj;cases hj;exact hne (by rw [e1,e2])
    exact List.mem_of_getElem? (i:=j) (by rw [List.getElem?_set_ne (Ne.symm e)];exact hj)
  · exact List.mem_of_getElem? (i:=i) (by rw [List.getElem?_set_self hi,e1,e2])
theorem arr_no {c:CS} (hx:CInv c) {rd:Int × Int→Option (List Int × Int)} {R:List RRd} (h:RelR c rd R) {k t o:Int} (hk:k=9) (hc:canF c k t o) (hno:¬ ∃ (j:Nat) (q:RRd),R[j]?=some q∧q.1=o∧q.2.1=(opF c o).1) {g:H} {l:List Int} {z:Int} (ho:OkV g.2.2) (he:tr g.2.2=l) :
    RelR (nxF c k t o) (upd rd (o,(opF c o).1) (some (l,z))) (R++[(o,(opF c o).1,g)]):=by
  subst hk
  have hn:∀ q∈R,(q.1,q.2.1)≠(o,(opF c o).1):=fun q hq e=>by
    obtain ⟨j,hj⟩:=List.getElem?_of_mem hq
    simp only [Prod.mk.injEq] at e
    exact hno ⟨j,q,hj,e.1,e.2⟩
  refine relR_arr hx h rfl hc (by have:=h.Rl;simp;omega) ?_ (fun a ha=>?_) (fun a ha hne=>List.mem_append_left _ ha) ⟨g,by simp⟩
  · rw [List.map_append,List.nodup_append]
    refine ⟨h.Rd,by simp,fun a ha b hb=>?_⟩
    obtain ⟨q,hq,rfl⟩:=List.mem_map.1 ha
    simp only [List.map_cons,List.map_nil,List.mem_singleton] at hb
    rw [hb];exact hn q hq
  · rcases List.mem_append.1 ha with ha | ha
    · exact .inl ⟨ha,hn a ha⟩
    · simp only [List.mem_singleton] at ha
      subst ha;exact .inr ⟨rfl,rfl,ho,he⟩
/-! ### The pool -/
theorem inp_add {M:List H} {a h:H} (hp:InP M h):InP (M++[a]) h:=inp_more (fun _ m=>List.mem_append_left _ m) hp
theorem poolA_app {M M':List H} {r:RS} (p:PoolA M r):PoolA (M++M') r:=poolA_more (fun _ m=>List.mem_append_left _ m) p
section
variable {M:List H} {V L O:List H} {R:List RRd} {X:List RVr} {i:Nat} {h:H}
theorem mem_setP {α:Type} {P:α→Prop} {l:List α} {i:Nat} {a:α} (h:∀ q∈l,P q) (ha:P a):∀ q∈l.set i a,P q:=fun q hq=>by
  rcases List.mem_or_eq_of_mem_set hq with hq | rfl
  · exact h q hq
  · exact ha
theorem pool_V (p:PoolA M ⟨V,L,O,R,X⟩) (hp:InP M h):PoolA M ⟨V.set i h,L,O,R,X⟩:=⟨mem_setP p.V hp,p.L,p.O,p.R,p.X⟩
theorem pool_L (p:PoolA M ⟨V,L,O,R,X⟩) (hp:InP M h):PoolA M ⟨V,L.set i h,O,R,X⟩:=⟨p.V,mem_setP p.L hp,p.O,p.R,p.X⟩
theorem pool_O (p:PoolA M ⟨V,L,O,R,X⟩) (hp:InP M h):PoolA M ⟨V,L,O.set i h,R,X⟩:=⟨p.V,p.L,mem_setP p.O hp,p.R,p.X⟩
theorem pool_R (p:PoolA M ⟨V,L,O,R,X⟩) {q:RRd} (hp:InP M q.2.2):PoolA M ⟨V,L,O,R.set i q,X⟩:=⟨p.V,p.L,p.O,mem_setP p.R hp,p.X⟩
theorem pool_R2 (p:PoolA M ⟨V,L,O,R,X⟩) {q:RRd} (hp:InP M q.2.2):PoolA M ⟨V,L,O,R++[q],X⟩:=⟨p.V,p.L,p.O,fun a ha=>by
  rcases List.mem_append.1 ha with ha | ha
  · exact p.R a ha
  · simp only [List.mem_singleton] at ha;rw [ha];exact hp,p.X⟩
theorem pool_X (p:PoolA M ⟨V,L,O,R,X⟩) {q:RVr} (hp:InP M q.2.2.2.2.2.1):PoolA M ⟨V,L,O,R,X.set i q⟩:=⟨p.V,p.L,p.O,p.R,mem_setP p.X hp⟩
end
end Go.Ab.Fr
