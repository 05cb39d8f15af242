/- What the law Plays rests on, part 6 of 7. -/
import Derived.Test.YtiefkbajaffgcaaGreatPlaysE
set_option linter.unusedVariables false
set_option linter.unusedSimpArgs false
set_option maxRecDepth 100000
namespace Go.Ab.Rh
open Go Go.Proofs Go.Ab Go.Ab.Fe Go.Ab.Vc Go.Ab.Dj Go.Ab.Rv Go.Ab.Hi
/-- A pair out of a list of pairs, if there is one. -/
def oneF (F:List T3) (z:Int):T3 × Bool:=if 0≤z then (match F[z.toNat]? with | some q=>if q.2.2 < 0 then ((0,0,0),false) else (q,true) | none=>((0,0,0),false)) else ((0,0,0),false)
theorem one_out {F:List T3} {z:Int} (h:z < 0∨(F.length:Int)≤z):oneF F z=((0,0,0),false):=by
  unfold oneF
  split
  · rw [List.getElem?_eq_none Om]
  · rfl
theorem one_at {F:List T3} {i:Nat} {q:T3} (h:F[i]?=some q):oneF F (i:Int)=if q.2.2 < 0 then ((0,0,0),false) else (q,true):=by
  unfold oneF;rw [if_pos Om,Int.toNat_natCast,h]
theorem one_fs {x:HS} {L:List KA} (hR:HRel L x) (z:Int):oneF (x.vars.map fsF) z=((wH x z).1,(wH x z).2.2.1):=by
  rcases wH_cases x z with ⟨i,w,rfl,hw⟩ | hz
  · obtain ⟨r1,r2⟩:=hR.r w (List.mem_of_getElem? hw)
    rw [wH_nat hw,one_at (q:=fsF w) (by rw [List.getElem?_map,hw];rfl)]
    by_cases h:w.2.2.1=true
    · have h1:=(r2 h).1;rw [show fsF w=w.1 from if_pos h,if_neg Om,h]
    · have h':w.2.2.1=false:=by simpa using h
      rw [show fsF w=(0,0,-1) from if_neg h,if_pos (by decide),(r1 h').1,h']
  · rw [wH_none hz,one_out (by rw [List.length_map];exact hz)];rfl
theorem one_rc {x:HS} {L:List KA} (hR:HRel L x) (z:Int):oneF (x.vars.map rcF) z=((wH x z).2.1,(wH x z).2.2.1):=by
  rcases wH_cases x z with ⟨i,w,rfl,hw⟩ | hz
  · obtain ⟨r1,r2⟩:=hR.r w (List.mem_of_getElem? hw)
    rw [wH_nat hw,one_at (q:=rcF w) (by rw [List.getElem?_map,hw];rfl)]
    by_cases h:w.2.2.1=true
    · have h1:=(r2 h).2;rw [show rcF w=w.2.1 from if_pos h,if_neg Om,h]
    · have h':w.2.2.1=false:=by simpa using h
      rw [show rcF w=(0,0,-1) from if_neg h,if_pos (by decide),(r1 h').2,h']
  · rw [wH_none hz,one_out (by rw [List.length_map];exact hz)];rfl
/-- What a thread did last on a variable: the numbers and the error. -/
def lsOk (x:HS) (o t:Int):Prop:=0≤o∧o < x.v.ck.va∧0≤t∧t < x.v.ck.th
instance (x:HS) (o t:Int):Decidable (lsOk x o t):=by unfold lsOk;infer_instance
def lsF (x:HS) (o t:Int):Tch:=if lsOk x o t then tchF x o t else (0,0,0,0)
def lsE (x:HS) (o t:Int):Int:=if lsOk x o t then 0 else 2
theorem ls_val {x:HS} {L:List KA} (hR:HRel L x) {o t i1 i2:Int} (e1:lastI L (1,t,o) L.length=i1) (e2:lastI L (2,t,o) L.length=i2):tchF x o t=(atI L i1,atI L i2,clI L i1,clI L i2):=by rw [hR.k,e1,e2]
theorem at_no {L:List KA} {j:Int} (h:¬ 0≤j):atI L j=-1∧clI L j=0:=⟨if_neg h,if_neg h⟩
/-- The last access to a variable. -/
theorem tou_yes {x:HS} {L:List KA} (hR:HRel L x) {z:Int} {i:Nat} {w:KA} (h:lastO L z L.length=i) (hw:L[i]?=some w) (hz:w.1.2.2=z):(wH x z).2.2.2=(w.1,w.2.1)∧w.1.1≠0:=by
  obtain ⟨b0,b1⟩:=hR.ob w (List.mem_of_getElem? hw)
  obtain ⟨-,-,k,-⟩:=hR.lo w (List.mem_of_getElem? hw)
  rw [hz] at b0 b1
  obtain ⟨n,rfl⟩:=Int.eq_ofNat_of_zero_le b0
  obtain ⟨v,hv⟩:=cX (l:=x.vars) (i:=n) Om
  have h1:=hR.t n v hv
  rw [h] at h1
  unfold touI at h1
  rw [if_pos Om,Int.toNat_natCast,hw] at h1
  rw [wH_nat hv]
  exact ⟨h1,by omega⟩
theorem tou_no {x:HS} {L:List KA} (hR:HRel L x) {z:Int} (h:lastO L z L.length=-1):(wH x z).2.2.2=((0,0,0),0):=by
  rcases wH_cases x z with ⟨i,w,rfl,hw⟩ | hz
  · have h1:=hR.t i w hw
    rw [h] at h1
    rw [wH_nat hw];exact h1
  · rw [wH_none hz];rfl
theorem pr_cond {w:Tld} (r:(w.2.2.1=false→w.1=(0,0,0)∧w.2.1=(0,0,0))∧(w.2.2.1=true→0≤w.1.2.2∧0≤w.2.1.2.2)):0≤(fsF w).2.2↔w.2.2.1=true:=by
  by_cases h:w.2.2.1=true
  · rw [show fsF w=w.1 from if_pos h];exact ⟨fun _=>h,fun _=>(r.2 h).1⟩
  · rw [show fsF w=(0,0,-1) from if_neg h];exact ⟨fun q=>absurd q (by decide),fun q=>absurd q h⟩
theorem one_spec (F:List T3) (ao:Option Addr) (n cc:Nat) (A:HProp) (hr:RdS A ao (F.flatMap enc3)) (hFn:F.length=n) (hb:n≤4000000) (z:Int):Spec Tryz.prog 96 [.slice ao n cc,.int .i64 z] [A] (fun (_:Unit)=>.tuple #[.agg #[.int .i64 (oneF F z).1.1,.int .i64 (oneF F z).1.2.1,.int .i64 (oneF F z).1.2.2],.bool (oneF F z).2]) (fun _=>True) (fun _=>[A]):=by
 refine kS (n:=27) Tryz.func96 J J J ?_
 intro Γ w0
 simp only [argE,Ca,Na,Zd,Nat.reduceAdd]
 refine qL (qC ((.l 0 [] (.q 1 (.done)))) Kr ?_)
 refine cY J J J ω'65 (zs:=[.int .i64 0,.int .i64 0,.int .i64 0]) J ?_
 intro b4
 refine qV (qR J J J J (qS (qQ (qL (qL (qC (.q 0 (.q 1 (.q 2 (.q 3 (.q 4 (.q 5 (.q 6 (.q 7 (.q 8 (.q 9 (.q 10 (.q 11 (.q 12 (.q 13 (.q 14 (.q 15 (.done))))))))))))))))) Kr ?_))))))
 refine qK J J J J (qD J J J J J (sK _ _ _ _) ?_)
 refine qK J J J J ?_
 refine cV 8 J (fun hz0=>?_) (fun hz0=>?_)
 ·
  refine qX J J J J (qX J J J J (qX J J J J (qX J J J J (kL J J J J J (qK J J J J (qX J J J J (qX J J J J (qX J J J J ?_))))))))
  refine qX J J J J (qX J J J J (qX J J J J (kL J J J J J (qS (qW [0,1,4,21] (e':=[(0,_),(1,_),(4,_),(21,_)]) J ?_)))))
  refine qQ (cC J ?_)
  refine qL (qC (.q 0 ((.l 1 [] (.q 2 (.done))))) Kr ?_)
  refine kB J J J J (vs:=[_,_,_]) (kQ υ'65 ω'65 (ps:=[(0,1),(1,1),(2,1)]) ⟨rfl,ζ'3,rfl,ζ'3,rfl,ζ'3,trivial⟩ rfl) ?_
  refine kR (j:=0) J J J J ζ'65 (us:=[_,_,_]) J J J Tk Az (by first | decide | (simp;done) | omega) ?_
  simp only [setL,List.set]
  refine qV (qR J J J J (qS (qW [4,5] (e':=[(4,_),(5,_)]) J ?_)))
  refine qQ (qJ (qN (retL (us:=[_,_]) J ⟨cH J α'65 ζ'65 Tk 0 J (us:=[_,_,_]) J J,sV rfl,trivial⟩ (()) (by rw [one_out Om];try rfl) (by trivial) ?_)))
  exact Tf
 refine qK J J J J (qK J J J J (sR J J J J υ'62 ?_))
 refine qD J J J J J (b_geq _ _ _ _) ?_
 refine kD J J J J J (qK J J J J ?_)
 refine cV 14 J (fun hz1=>?_) (fun hz1=>?_)
 ·
  refine qX J J J J (qX J J J J (qX J J J J (qX J J J J (qX J J J J (qX J J J J (kL J J J J J (qS (qW [0,1,4,21] (e':=[(0,_),(1,_),(4,_),(21,_)]) J ?_))))))))
  refine qQ (cC J ?_)
  refine qL (qC (.q 0 ((.l 1 [] (.q 2 (.done))))) Kr ?_)
  refine kB J J J J (vs:=[_,_,_]) (kQ υ'65 ω'65 (ps:=[(0,1),(1,1),(2,1)]) ⟨rfl,ζ'3,rfl,ζ'3,rfl,ζ'3,trivial⟩ rfl) ?_
  refine kR (j:=0) J J J J ζ'65 (us:=[_,_,_]) J J J Tk Az (by first | decide | (simp;done) | omega) ?_
  simp only [setL,List.set]
  refine qV (qR J J J J (qS (qW [4,5] (e':=[(4,_),(5,_)]) J ?_)))
  refine qQ (qJ (qN (retL (us:=[_,_]) J ⟨cH J α'65 ζ'65 Tk 0 J (us:=[_,_,_]) J J,sV rfl,trivial⟩ (()) (by rw [one_out Om];try rfl) (by trivial) ?_)))
  exact Tf
 obtain ⟨i,rfl⟩:=Int.eq_ofNat_of_zero_le (show 0≤z by omega)
 obtain ⟨q,hq⟩:=cX (l:=F) (i:=i) Om
 refine qK J J J J (qK J J J J (q_idxR (sz:=2) (k:=i) J J J J J υ'62 ζ'65 (hr) hq enc3_len (by first | rfl | omega) Om ?_))
 intro ib17 io17 _ hd17
 refine qG (k:=2) J J J J υ'65 J ζ'3 J ?_
 refine q_load J J J J α'3 Tk (hd17 2 (.int .i64 q.2.2) J) ?_
 refine qD J J J J J (sK _ _ _ _) ?_
 refine kD J J J J J (qS (qW [0,1,4,21] (e':=[(0,_),(1,_),(4,_),(21,_)]) J ?_))
 refine qQ ?_
 refine qF J (fun hlt=>?_) (fun hlt=>?_)
 ·
  refine qL (qC (.q 0 ((.l 1 [] (.q 2 (.done))))) Kr ?_)
  refine kB J J J J (vs:=[_,_,_]) (kQ υ'65 ω'65 (ps:=[(0,1),(1,1),(2,1)]) ⟨rfl,ζ'3,rfl,ζ'3,rfl,ζ'3,trivial⟩ rfl) ?_
  refine kR (j:=0) J J J J ζ'65 (us:=[_,_,_]) J J J Tk Az (by first | decide | (simp;done) | omega) ?_
  simp only [setL,List.set]
  refine qV (qR J J J J (qS (qW [4,5] (e':=[(4,_),(5,_)]) J ?_)))
  refine qQ (qJ (qN (retL (us:=[_,_]) J ⟨cH J α'65 ζ'65 Tk 0 J (us:=[_,_,_]) J J,sV rfl,trivial⟩ (()) (by rw [one_at hq,if_pos hlt];try rfl) (by trivial) ?_)))
  exact Tf
 refine qH (qQ (qL (qC (.q 0 (.q 1 (.q 2 (.q 3 ((.l 4 [] (.q 5 (.done)))))))) Kr ?_)))
 refine qK J J J J (qK J J J J (q_idxR (sz:=2) (k:=i) J J J J J υ'62 ζ'65 (hr) hq enc3_len (by first | rfl | omega) Om ?_))
 intro ib25 io25 _ hd25
 refine q_loadN (vs:=[_,_,_]) J J J J α'65 ζ'65 Tk (hd25) J ?_
 refine kR (j:=0) J J J J ζ'65 (us:=[_,_,_]) J J J Tk Az (by first | decide | (simp;done) | omega) ?_
 simp only [setL,List.set]
 refine qV (qR J J J J (qS (qW [4,5] (e':=[(4,_),(5,_)]) J ?_)))
 refine qQ (qJ (retL (us:=[_,_]) J ⟨cH J α'65 ζ'65 Tk 0 J (us:=[_,_,_]) J J,sV rfl,trivial⟩ (()) (by rw [one_at hq,if_neg hlt];try rfl) (by trivial) ?_))
 exact Tf
theorem rpair_spec (pa:Option Addr) (pc b:Nat) (x:HS) (hx:SInv x) (L:List KA) (hR:HRel L x) (hn:x.v.ck.n≤3000000000000) (z:Int):Spec Tryz.prog 48 [.pointer (some ⟨b,0,none⟩),.int .i64 z] [rhR pa pc b x L] (fun (_:Unit)=>.tuple #[.agg #[.int .i64 (wH x z).1.1,.int .i64 (wH x z).1.2.1,.int .i64 (wH x z).1.2.2],.bool (wH x z).2.2.1]) (fun _=>True) (fun _=>[rhR pa pc b x L]):=by
 refine kS (n:=17) Tryz.func48 J J J ?_
 intro Γ w0
 simp only [argE,Ca,Na,Zd,Nat.reduceAdd]
 refine qL (qC ((.l 0 [] (.q 1 (.done)))) Kr ?_)
 refine cY J J J ω'65 (zs:=[.int .i64 0,.int .i64 0,.int .i64 0]) J ?_
 intro b4
 refine qV (qR J J J J (qS (qQ (qL (qL (qC (.q 0 (.q 1 (.done))) Kr ?_))))))
 refine qK J J J J (cM J J J J υ'33 ?_)
 refine kF 7 J (v':=.bool false) J ?_
 refine qS (qQ (kN J ?_))
 refine qH (qQ (qL ?_))
 have hva:=hx.v.ck.sh.va
 have hvl:=hx.len
 refine rh_open (ra:=pa) (rc:=pc) (b:=b) (x:=x) (L:=L) Tk fun vb sa sn sc Aa Ac Fa Fc Ga Gc=>?_
 refine qC (.q 0 (.q 1 (.q 2 (.q 3 (.q 4 ((.l 5 [] (.q 6 (.q 7 ((.l 8 [] (.q 9 (.done))))))))))))) Kr ?_
 refine qK J J J J (qZ J J J J (qG (k:=7) J J J J υ'75 J ζ'62 J ?_))
 refine qP (j:=7) J J J J α'62 Tk Az (by rfl) ?_
 refine qK J J J J (cP (A:=own 3 enc3 Fa Fc (x.vars.map fsF)) Tk ?_)
 refine own_fc fun f_1a f_1b f_1c=>?_
 have sp_2:=one_spec (x.vars.map fsF) Fa x.vars.length Fc (own 3 enc3 Fa Fc (x.vars.map fsF)) (rC enc3_len (fun h=>(f_1b h).1) f_1c) (by rw [List.length_map]) Om z
 refine qB J J J J J J Tryz.call96 (sp_2) Ts ?_
 rintro ⟨⟩ -
 try simp only [Ca,Na]
 refine qV (kX J J J J J (kX J J J J J (kR (j:=0) J J J J ζ'65 (us:=[_,_,_]) J J J Tk Az (by first | decide | (simp;done) | omega) ?_)))
 simp only [setL,List.set]
 refine qV (qR J J J J (qS (qW [4,5] (e':=[(4,_),(5,_)]) J ?_)))
 refine qQ (qJ (rh_fold (b:=b) x L (ra:=pa) (rc:=pc) (vb:=vb) (sa:=sa) (sn:=sn) (sc:=sc) (Aa:=Aa) (Ac:=Ac) (Fa:=Fa) (Fc:=Fc) (Ga:=Ga) (Gc:=Gc) Ts J J J J J (by first | rfl | simp) (by first | rfl | simp) (by first | rfl | simp) (by first | rfl | simp) (by first | rfl | simp) ?_))
 refine retL (us:=[_,_]) J ⟨cH J α'65 ζ'65 Tk 0 J (us:=[_,_,_]) J J,sV rfl,trivial⟩ (()) (by rw [one_fs hR z];try rfl) (by trivial) ?_
 exact Tf
theorem rlatest_spec (pa:Option Addr) (pc b:Nat) (x:HS) (hx:SInv x) (L:List KA) (hR:HRel L x) (hn:x.v.ck.n≤3000000000000) (z:Int):Spec Tryz.prog 50 [.pointer (some ⟨b,0,none⟩),.int .i64 z] [rhR pa pc b x L] (fun (_:Unit)=>.tuple #[.agg #[.int .i64 (wH x z).2.1.1,.int .i64 (wH x z).2.1.2.1,.int .i64 (wH x z).2.1.2.2],.bool (wH x z).2.2.1]) (fun _=>True) (fun _=>[rhR pa pc b x L]):=by
 refine kS (n:=17) Tryz.func50 J J J ?_
 intro Γ w0
 simp only [argE,Ca,Na,Zd,Nat.reduceAdd]
 refine qL (qC ((.l 0 [] (.q 1 (.done)))) Kr ?_)
 refine cY J J J ω'65 (zs:=[.int .i64 0,.int .i64 0,.int .i64 0]) J ?_
 intro b4
 refine qV (qR J J J J (qS (qQ (qL (qL (qC (.q 0 (.q 1 (.done))) Kr ?_))))))
 refine qK J J J J (cM J J J J υ'33 ?_)
 refine kF 7 J (v':=.bool false) J ?_
 refine qS (qQ (kN J ?_))
 refine qH (qQ (qL ?_))
 have hva:=hx.v.ck.sh.va
 have hvl:=hx.len
 refine rh_open (ra:=pa) (rc:=pc) (b:=b) (x:=x) (L:=L) Tk fun vb sa sn sc Aa Ac Fa Fc Ga Gc=>?_
 refine qC (.q 0 (.q 1 (.q 2 (.q 3 (.q 4 ((.l 5 [] (.q 6 (.q 7 ((.l 8 [] (.q 9 (.done))))))))))))) Kr ?_
 refine qK J J J J (qZ J J J J (qG (k:=8) J J J J υ'75 J ζ'62 J ?_))
 refine qP (j:=8) J J J J α'62 Tk Az (by rfl) ?_
 refine qK J J J J (cP (A:=own 3 enc3 Ga Gc (x.vars.map rcF)) Tk ?_)
 refine own_fc fun f_1a f_1b f_1c=>?_
 have sp_2:=one_spec (x.vars.map rcF) Ga x.vars.length Gc (own 3 enc3 Ga Gc (x.vars.map rcF)) (rC enc3_len (fun h=>(f_1b h).1) f_1c) (by rw [List.length_map]) Om z
 refine qB J J J J J J Tryz.call96 (sp_2) Ts ?_
 rintro ⟨⟩ -
 try simp only [Ca,Na]
 refine qV (kX J J J J J (kX J J J J J (kR (j:=0) J J J J ζ'65 (us:=[_,_,_]) J J J Tk Az (by first | decide | (simp;done) | omega) ?_)))
 simp only [setL,List.set]
 refine qV (qR J J J J (qS (qW [4,5] (e':=[(4,_),(5,_)]) J ?_)))
 refine qQ (qJ (rh_fold (b:=b) x L (ra:=pa) (rc:=pc) (vb:=vb) (sa:=sa) (sn:=sn) (sc:=sc) (Aa:=Aa) (Ac:=Ac) (Fa:=Fa) (Fc:=Fc) (Ga:=Ga) (Gc:=Gc) Ts J J J J J (by first | rfl | simp) (by first | rfl | simp) (by first | rfl | simp) (by first | rfl | simp) (by first | rfl | simp) ?_))
 refine retL (us:=[_,_]) J ⟨cH J α'65 ζ'65 Tk 0 J (us:=[_,_,_]) J J,sV rfl,trivial⟩ (()) (by rw [one_rc hR z];try rfl) (by trivial) ?_
 exact Tf
theorem rlen_spec (pa:Option Addr) (pc b:Nat) (x:HS) (hx:SInv x) (L:List KA) (hR:HRel L x) (hn:x.v.ck.n≤3000000000000):Spec Tryz.prog 46 [.pointer (some ⟨b,0,none⟩)] [rhR pa pc b x L] (fun (_:Unit)=>.int .i64 x.v.ck.n) (fun _=>True) (fun _=>[rhR pa pc b x L]):=by
 refine kS (n:=13) Tryz.func46 J J J ?_
 intro Γ w0
 simp only [argE,Ca,Na,Zd,Nat.reduceAdd]
 refine qL (qC (.q 0 (.done)) Kr ?_)
 refine qR J J J J (qS (qQ (qL (qL (rh_open (ra:=pa) (rc:=pc) (b:=b) (x:=x) (L:=L) Tk fun vb sa sn sc Aa Ac Fa Fc Ga Gc=>?_)))))
 refine qC (.q 0 (.q 1 (.done))) Kr ?_
 refine qK J J J J (cM J J J J υ'33 ?_)
 refine kF 4 J (v':=.bool false) J ?_
 refine qS (qQ (kN J ?_))
 refine qH (qQ (qL (rv_open (pa:=pa) (pc:=pc) (b:=vb) (x:=x.v) Tk fun cb Ta Tc La Lc Oa Oc Ra Rc VT VL VO VR YR hVT hVL hVO hVR hK=>?_)))
 refine qC (.q 0 (.q 1 (.q 2 (.q 3 (.q 4 (.q 5 (.q 6 ((.l 7 [] (.q 8 (.done))))))))))) Kr ?_
 refine qK J J J J (qZ J J J J (qG (k:=0) J J J J υ'75 J ζ'70 J ?_))
 refine qP (j:=0) J J J J α'70 Tk Az (by rfl) ?_
 refine qZ J J J J (qG (k:=0) J J J J υ'104 J ζ'98 J ?_)
 refine qP (j:=0) J J J J α'98 Tk Az (by rfl) ?_
 have sp_1:=Fe.rlen_spec pa pc cb x.v.ck
 refine qB J J J J J J Tryz.call37 (sp_1) Ts ?_
 rintro ⟨⟩ -
 try simp only [Ca,Na]
 refine qV (qR J J J J (qS (qW [2] (e':=[(2,_)]) J ?_)))
 refine qQ (qJ (rv_fold (b:=vb) x.v (pa:=pa) (pc:=pc) (cb:=cb) (Ta:=Ta) (Tc:=Tc) (La:=La) (Lc:=Lc) (Oa:=Oa) (Oc:=Oc) (Ra:=Ra) (Rc:=Rc) (VT:=VT) (VL:=VL) (VO:=VO) (VR:=VR) (YR:=YR) Ts (by first | rfl | simp) (by first | rfl | simp) (by first | rfl | simp) (by first | rfl | simp) J J J J hVT hVL hVO hVR hK ?_))
 refine rh_fold (b:=b) x L (ra:=pa) (rc:=pc) (vb:=vb) (sa:=sa) (sn:=sn) (sc:=sc) (Aa:=Aa) (Ac:=Ac) (Fa:=Fa) (Fc:=Fc) (Ga:=Ga) (Gc:=Gc) Ts J J J J J (by first | rfl | simp) (by first | rfl | simp) (by first | rfl | simp) (by first | rfl | simp) (by first | rfl | simp) ?_
 refine cR J J (()) (by first | rfl | (first | rfl | (congr 1;done) | (congr 1 <;> first | rfl | omega | (simp;done) | (simp;omega)))) (by trivial) ?_
 exact Tf
theorem rlast_spec (pa:Option Addr) (pc b:Nat) (x:HS) (hx:SInv x) (L:List KA) (hR:HRel L x) (hn:x.v.ck.n≤3000000000000) (o t:Int):Spec Tryz.prog 52 [.pointer (some ⟨b,0,none⟩),.int .i64 o,.int .i64 t] [rhR pa pc b x L] (fun (_:Unit)=>.tuple #[evT (lsF x o t),.int .i64 (lsE x o t)]) (fun _=>True) (fun _=>[rhR pa pc b x L]):=by
 refine kS (n:=88) Tryz.func52 J J J ?_
 intro Γ w0
 simp only [argE,Ca,Na,Zd,Nat.reduceAdd]
 refine qL (qC ((.l 0 [] (.q 1 (.done)))) Kr ?_)
 refine cY J J J ω'119 (zs:=[.int .i64 0,.int .i64 0,.int .u64 0,.int .u64 0]) J ?_
 intro b6
 refine qV (qR J J J J (qS (qQ (qL (qL (qC (.q 0 (.q 1 (.done))) Kr ?_))))))
 refine qK J J J J (cM J J J J υ'33 ?_)
 refine kF 11 J (v':=.bool false) J ?_
 refine qS (qQ (kN J ?_))
 refine qH (qQ (qL (qL ?_)))
 have hRn:=hR.n
 refine rh_open (ra:=pa) (rc:=pc) (b:=b) (x:=x) (L:=L) Tk fun vb sa sn sc Aa Ac Fa Fc Ga Gc=>?_
 refine qC (.q 0 (.q 1 (.q 2 (.q 3 (.q 4 (.q 5 (.q 6 (.q 7 (.q 8 (.q 9 (.q 10 (.q 11 (.q 12 (.q 13 (.q 14 (.q 15 (.q 16 (.q 17 (.q 18 (.q 19 (.q 20 (.q 21 (.q 22 (.q 23 (.done))))))))))))))))))))))))) Kr ?_
 refine qK J J J J (qD J J J J J (sK _ _ _ _) ?_)
 refine qK J J J J ?_
 refine cV 15 J (fun c1=>?_) (fun c1=>?_)
 ·
  refine qX J J J J (qX J J J J (qX J J J J (qX J J J J (qX J J J J (qX J J J J (qX J J J J (kL J J J J J (qK J J J J ?_))))))))
  refine qX J J J J (qX J J J J (kL J J J J J (qK J J J J (qX J J J J (qX J J J J (qX J J J J (qX J J J J (qX J J J J ?_))))))))
  refine qX J J J J (qX J J J J (kL J J J J J (qS (qW [0,1,2,6,36] (e':=[(0,_),(1,_),(2,_),(6,_),(36,_)]) J ?_))))
  refine qQ (cC J ?_)
  refine qL (qC (.q 0 ((.l 1 [] (.q 2 (.done))))) Kr ?_)
  refine kB J J J J (vs:=[_,_,_,_]) (kQ υ'119 ω'119 (ps:=[(0,1),(1,1),(2,1),(3,1)]) ⟨rfl,ζ'3,rfl,ζ'3,rfl,ζ'97,rfl,ζ'97,trivial⟩ rfl) ?_
  refine kR (j:=0) J J J J ζ'119 (us:=[_,_,_,_]) J J J Tk Az (by first | decide | (simp;done) | omega) ?_
  simp only [setL,List.set]
  refine qV (qR J J J J (qS (qW [6,7] (e':=[(6,_),(7,_)]) J ?_)))
  refine qQ (qJ (qN (rh_fold (b:=b) x L (ra:=pa) (rc:=pc) (vb:=vb) (sa:=sa) (sn:=sn) (sc:=sc) (Aa:=Aa) (Ac:=Ac) (Fa:=Fa) (Fc:=Fc) (Ga:=Ga) (Gc:=Gc) Ts J J J J J (by first | rfl | simp) (by first | rfl | simp) (by first | rfl | simp) (by first | rfl | simp) (by first | rfl | simp) ?_)))
  refine retL (us:=[_,_]) J ⟨cH J α'119 ζ'119 Tk 0 J (us:=[_,_,_,_]) J J,sV rfl,trivial⟩ (()) (by have h9:¬ lsOk x o t:=(by unfold lsOk;omega);rw [lsF,lsE,if_neg h9,if_neg h9];try rfl) (by trivial) ?_
  exact Tf
 refine qK J J J J (qK J J J J (qZ J J J J (qG (k:=1) J J J J υ'75 J ζ'24 J ?_)))
 refine qG (k:=1) J J J J υ'24 J ζ'3 J ?_
 refine qP (j:=2) J J J J α'3 Tk Az (by rfl) ?_
 refine qD J J J J J (b_geq _ _ _ _) ?_
 refine kD J J J J J (qK J J J J ?_)
 refine cV 24 J (fun c2=>?_) (fun c2=>?_)
 ·
  refine qX J J J J (qX J J J J (kL J J J J J (qK J J J J (qX J J J J (qX J J J J (qX J J J J (qX J J J J (qX J J J J ?_))))))))
  refine qX J J J J (qX J J J J (kL J J J J J (qS (qW [0,1,2,6,36] (e':=[(0,_),(1,_),(2,_),(6,_),(36,_)]) J ?_))))
  refine qQ (cC J ?_)
  refine qL (qC (.q 0 ((.l 1 [] (.q 2 (.done))))) Kr ?_)
  refine kB J J J J (vs:=[_,_,_,_]) (kQ υ'119 ω'119 (ps:=[(0,1),(1,1),(2,1),(3,1)]) ⟨rfl,ζ'3,rfl,ζ'3,rfl,ζ'97,rfl,ζ'97,trivial⟩ rfl) ?_
  refine kR (j:=0) J J J J ζ'119 (us:=[_,_,_,_]) J J J Tk Az (by first | decide | (simp;done) | omega) ?_
  simp only [setL,List.set]
  refine qV (qR J J J J (qS (qW [6,7] (e':=[(6,_),(7,_)]) J ?_)))
  refine qQ (qJ (qN (rh_fold (b:=b) x L (ra:=pa) (rc:=pc) (vb:=vb) (sa:=sa) (sn:=sn) (sc:=sc) (Aa:=Aa) (Ac:=Ac) (Fa:=Fa) (Fc:=Fc) (Ga:=Ga) (Gc:=Gc) Ts J J J J J (by first | rfl | simp) (by first | rfl | simp) (by first | rfl | simp) (by first | rfl | simp) (by first | rfl | simp) ?_)))
  refine retL (us:=[_,_]) J ⟨cH J α'119 ζ'119 Tk 0 J (us:=[_,_,_,_]) J J,sV rfl,trivial⟩ (()) (by have h9:¬ lsOk x o t:=(by unfold lsOk;omega);rw [lsF,lsE,if_neg h9,if_neg h9];try rfl) (by trivial) ?_
  exact Tf
 refine qK J J J J (qD J J J J J (sK _ _ _ _) ?_)
 refine kD J J J J J (qK J J J J ?_)
 refine cV 28 J (fun c3=>?_) (fun c3=>?_)
 ·
  refine qX J J J J (qX J J J J (qX J J J J (qX J J J J (qX J J J J (qX J J J J (qX J J J J (kL J J J J J (qS ?_))))))))
  refine qW [0,1,2,6,36] (e':=[(0,_),(1,_),(2,_),(6,_),(36,_)]) J ?_
  refine qQ (cC J ?_)
  refine qL (qC (.q 0 ((.l 1 [] (.q 2 (.done))))) Kr ?_)
  refine kB J J J J (vs:=[_,_,_,_]) (kQ υ'119 ω'119 (ps:=[(0,1),(1,1),(2,1),(3,1)]) ⟨rfl,ζ'3,rfl,ζ'3,rfl,ζ'97,rfl,ζ'97,trivial⟩ rfl) ?_
  refine kR (j:=0) J J J J ζ'119 (us:=[_,_,_,_]) J J J Tk Az (by first | decide | (simp;done) | omega) ?_
  simp only [setL,List.set]
  refine qV (qR J J J J (qS (qW [6,7] (e':=[(6,_),(7,_)]) J ?_)))
  refine qQ (qJ (qN (rh_fold (b:=b) x L (ra:=pa) (rc:=pc) (vb:=vb) (sa:=sa) (sn:=sn) (sc:=sc) (Aa:=Aa) (Ac:=Ac) (Fa:=Fa) (Fc:=Fc) (Ga:=Ga) (Gc:=Gc) Ts J J J J J (by first | rfl | simp) (by first | rfl | simp) (by first | rfl | simp) (by first | rfl | simp) (by first | rfl | simp) ?_)))
  refine retL (us:=[_,_]) J ⟨cH J α'119 ζ'119 Tk 0 J (us:=[_,_,_,_]) J J,sV rfl,trivial⟩ (()) (by have h9:¬ lsOk x o t:=(by unfold lsOk;omega);rw [lsF,lsE,if_neg h9,if_neg h9];try rfl) (by trivial) ?_
  exact Tf
 refine qK J J J J (qK J J J J (qZ J J J J (qG (k:=1) J J J J υ'75 J ζ'24 J ?_)))
 refine qG (k:=0) J J J J υ'24 J ζ'3 J ?_
 refine qP (j:=1) J J J J α'3 Tk Az (by rfl) ?_
 refine qD J J J J J (b_geq _ _ _ _) ?_
 refine kD J J J J J (qS (qW [0,1,2,6,36] (e':=[(0,_),(1,_),(2,_),(6,_),(36,_)]) J ?_))
 refine qQ ?_
 refine qF J (fun c4=>?_) (fun c4=>?_)
 ·
  refine qL (qC (.q 0 ((.l 1 [] (.q 2 (.done))))) Kr ?_)
  refine kB J J J J (vs:=[_,_,_,_]) (kQ υ'119 ω'119 (ps:=[(0,1),(1,1),(2,1),(3,1)]) ⟨rfl,ζ'3,rfl,ζ'3,rfl,ζ'97,rfl,ζ'97,trivial⟩ rfl) ?_
  refine kR (j:=0) J J J J ζ'119 (us:=[_,_,_,_]) J J J Tk Az (by first | decide | (simp;done) | omega) ?_
  simp only [setL,List.set]
  refine qV (qR J J J J (qS (qW [6,7] (e':=[(6,_),(7,_)]) J ?_)))
  refine qQ (qJ (qN (rh_fold (b:=b) x L (ra:=pa) (rc:=pc) (vb:=vb) (sa:=sa) (sn:=sn) (sc:=sc) (Aa:=Aa) (Ac:=Ac) (Fa:=Fa) (Fc:=Fc) (Ga:=Ga) (Gc:=Gc) Ts J J J J J (by first | rfl | simp) (by first | rfl | simp) (by first | rfl | simp) (by first | rfl | simp) (by first | rfl | simp) ?_)))
  refine retL (us:=[_,_]) J ⟨cH J α'119 ζ'119 Tk 0 J (us:=[_,_,_,_]) J J,sV rfl,trivial⟩ (()) (by have h9:¬ lsOk x o t:=(by unfold lsOk;omega);rw [lsF,lsE,if_neg h9,if_neg h9];try rfl) (by trivial) ?_
  exact Tf
 refine qH (qQ (qL (qC (.q 0 ((.l 1 [] ((.l 2 [] (.done)))))) Kr ?_)))
 refine kB J J J J (vs:=[_,_,_,_]) (kQ υ'119 ω'119 (ps:=[(0,1),(1,1),(2,1),(3,1)]) ⟨rfl,ζ'3,rfl,ζ'3,rfl,ζ'97,rfl,ζ'97,trivial⟩ rfl) ?_
 refine cY J J J ω'119 (zs:=[.int .i64 0,.int .i64 0,.int .u64 0,.int .u64 0]) J ?_
 intro b8
 refine qV (kR (j:=0) J J J J ζ'119 (us:=[_,_,_,_]) J J J Tk Az (by first | decide | (simp;done) | omega) ?_)
 simp only [setL,List.set]
 refine qV (qS (qQ (qL (qC (.q 0 (.q 1 (.q 2 ((.l 3 [] (.q 4 (.done))))))) Kr ?_))))
 refine qK J J J J (qK J J J J (qK J J J J ?_))
 have sp_1:=last_spec b Ac Aa (.pointer (some ⟨vb,0,none⟩)) (.int .i64 x.v.ck.th) (.int .i64 x.v.ck.va) (.int .i64 x.v.ck.vo) (.int .i64 x.v.ck.lk) (.slice sa sn sc) (.slice Fa x.vars.length Fc) (.slice Ga x.vars.length Gc) L Om 1 t o
 refine qB J J J J J J κ'80 (sp_1) Ts ?_
 rintro ⟨⟩ -
 try simp only [Ca,Na]
 refine qV (qR J J J J (qS (qW [0,1,2,6,8,9] (e':=[(0,_),(1,_),(2,_),(6,_),(8,_),(9,_)]) J ?_)))
 refine qQ (qL (qL (qC (.q 0 (.q 1 (.done))) Kr ?_)))
 refine qK J J J J (qD J J J J J (b_geq _ _ _ _) ?_)
 refine qS (qQ ?_)
 refine qF J (fun h1_=>?_) (fun h1_=>?_)
 ·
  obtain ⟨i1,hi1⟩:=Int.eq_ofNat_of_zero_le h1_
  have hlo1:=lastI_lo L (1,t,o) L.length
  obtain ⟨w1,hw1⟩:=cX (l:=L) (i:=i1) Om
  obtain ⟨p1,q1⟩:=at_some hw1
  refine qL (qC (.q 0 (.q 1 (.q 2 (.q 3 (.q 4 (.q 5 (.q 6 (.q 7 (.q 8 ((.l 9 [] (.done)))))))))))) Kr ?_)
  refine qK J J J J (qZ J J J J (qG (k:=6) J J J J υ'75 J ζ'73 J ?_))
  refine qP (j:=6) J J J J α'73 Tk Az (by rfl) ?_
  refine qK J J J J (cK (sz:=4) (k:=i1) (enc:=encKA) (xs:=L) J J J J J υ'73 ζ'112 hw1 (by first | rfl | exact hi1 | omega) Om Tk ?_)
  intro ib50 io50 ha50 hl50 hc50
  refine qG (k:=3) J J J J υ'112 J ζ'3 J ?_
  refine cQ (v:=(.int .i64 w1.2.1)) (j:=3) (k':=i1) (enc:=encKA) (off:=io50) J J J J α'3 ha50 encKA_len hw1 Tk (by first | rfl | exact (Ad _).symm | omega) (by rfl) ?_
  refine qG (k:=0) J J J J υ'119 J ζ'3 J ?_
  refine kR (j:=0) J J J J ζ'3 (us:=[_]) J J J Tk Az (by first | decide | (simp;done) | omega) ?_
  simp only [setL,List.set]
  refine qV (qS (qW [0,1,2,6,8,9] (e':=[(0,_),(1,_),(2,_),(6,_),(8,_),(9,_)]) J ?_))
  refine qQ (qC (.q 0 (.q 1 (.q 2 (.q 3 (.q 4 (.q 5 (.q 6 (.q 7 (.q 8 ((.l 9 [] (.done)))))))))))) Kr ?_)
  refine qK J J J J (qZ J J J J (qG (k:=6) J J J J υ'75 J ζ'73 J ?_))
  refine qP (j:=6) J J J J α'73 Tk Az (by rfl) ?_
  refine qK J J J J (cK (sz:=4) (k:=i1) (enc:=encKA) (xs:=L) J J J J J υ'73 ζ'112 hw1 (by first | rfl | exact hi1 | omega) Om Tk ?_)
  intro ib59 io59 ha59 hl59 hc59
  refine qG (k:=4) J J J J υ'112 J ζ'97 J ?_
  refine cQ (v:=(.int .u64 w1.2.2)) (j:=4) (k':=i1) (enc:=encKA) (off:=io59) J J J J α'97 ha59 encKA_len hw1 Tk (by first | rfl | exact (Ad _).symm | omega) (by rfl) ?_
  refine qG (k:=2) J J J J υ'119 J ζ'97 J ?_
  refine kR (j:=2) J J J J ζ'97 (us:=[_]) J J J Tk Az (by first | decide | (simp;done) | omega) ?_
  simp only [setL,List.set]
  refine qV (qS (qW [0,1,2,6,8] (e':=[(0,_),(1,_),(2,_),(6,_),(8,_)]) J ?_))
  refine qQ (qL (qC (.q 0 (.q 1 (.q 2 ((.l 3 [] (.q 4 (.done))))))) Kr ?_))
  refine qK J J J J (qK J J J J (qK J J J J ?_))
  have sp_2:=last_spec b Ac Aa (.pointer (some ⟨vb,0,none⟩)) (.int .i64 x.v.ck.th) (.int .i64 x.v.ck.va) (.int .i64 x.v.ck.vo) (.int .i64 x.v.ck.lk) (.slice sa sn sc) (.slice Fa x.vars.length Fc) (.slice Ga x.vars.length Gc) L Om 2 t o
  refine qB J J J J J J κ'80 (sp_2) Ts ?_
  rintro ⟨⟩ -
  try simp only [Ca,Na]
  refine qV (qR J J J J (qS (qW [0,6,8,9] (e':=[(0,_),(6,_),(8,_),(9,_)]) J ?_)))
  refine qQ (qL (qL (qC (.q 0 (.q 1 (.done))) Kr ?_)))
  refine qK J J J J (qD J J J J J (b_geq _ _ _ _) ?_)
  refine qS (qQ ?_)
  refine qF J (fun h2_=>?_) (fun h2_=>?_)
  ·
   obtain ⟨i2,hi2⟩:=Int.eq_ofNat_of_zero_le h2_
   have hlo2:=lastI_lo L (2,t,o) L.length
   obtain ⟨w2,hw2⟩:=cX (l:=L) (i:=i2) Om
   obtain ⟨p2,q2⟩:=at_some hw2
   refine qL (qC (.q 0 (.q 1 (.q 2 (.q 3 (.q 4 (.q 5 (.q 6 (.q 7 (.q 8 ((.l 9 [] (.done)))))))))))) Kr ?_)
   refine qK J J J J (qZ J J J J (qG (k:=6) J J J J υ'75 J ζ'73 J ?_))
   refine qP (j:=6) J J J J α'73 Tk Az (by rfl) ?_
   refine qK J J J J (cK (sz:=4) (k:=i2) (enc:=encKA) (xs:=L) J J J J J υ'73 ζ'112 hw2 (by first | rfl | exact hi2 | omega) Om Tk ?_)
   intro ib74 io74 ha74 hl74 hc74
   refine qG (k:=3) J J J J υ'112 J ζ'3 J ?_
   refine cQ (v:=(.int .i64 w2.2.1)) (j:=3) (k':=i2) (enc:=encKA) (off:=io74) J J J J α'3 ha74 encKA_len hw2 Tk (by first | rfl | exact (Ad _).symm | omega) (by rfl) ?_
   refine qG (k:=1) J J J J υ'119 J ζ'3 J ?_
   refine kR (j:=1) J J J J ζ'3 (us:=[_]) J J J Tk Az (by first | decide | (simp;done) | omega) ?_
   simp only [setL,List.set]
   refine qV (qS (qW [0,6,8,9] (e':=[(0,_),(6,_),(8,_),(9,_)]) J ?_))
   refine qQ (qC (.q 0 (.q 1 (.q 2 (.q 3 (.q 4 (.q 5 (.q 6 (.q 7 (.q 8 ((.l 9 [] (.done)))))))))))) Kr ?_)
   refine qK J J J J (qZ J J J J (qG (k:=6) J J J J υ'75 J ζ'73 J ?_))
   refine qP (j:=6) J J J J α'73 Tk Az (by rfl) ?_
   refine qK J J J J (cK (sz:=4) (k:=i2) (enc:=encKA) (xs:=L) J J J J J υ'73 ζ'112 hw2 (by first | rfl | exact hi2 | omega) Om Tk ?_)
   intro ib83 io83 ha83 hl83 hc83
   refine qG (k:=4) J J J J υ'112 J ζ'97 J ?_
   refine cQ (v:=(.int .u64 w2.2.2)) (j:=4) (k':=i2) (enc:=encKA) (off:=io83) J J J J α'97 ha83 encKA_len hw2 Tk (by first | rfl | exact (Ad _).symm | omega) (by rfl) ?_
   refine qG (k:=3) J J J J υ'119 J ζ'97 J ?_
   refine kR (j:=3) J J J J ζ'97 (us:=[_]) J J J Tk Az (by first | decide | (simp;done) | omega) ?_
   simp only [setL,List.set]
   refine qV (qS (qW [6,8] (e':=[(6,_),(8,_)]) J ?_))
   refine qQ (qL (qC (.q 0 ((.l 1 [] (.q 2 (.done))))) Kr ?_))
   refine kC J J J J α'119 ζ'119 Tk 0 (us:=[_,_,_,_]) Az J J ?_
   refine kR (j:=0) J J J J ζ'119 (us:=[_,_,_,_]) J J J Tk Az (by first | decide | (simp;done) | omega) ?_
   simp only [setL,List.set]
   refine qV (qR J J J J (qS (qQ (qJ (rh_fold (b:=b) x L (ra:=pa) (rc:=pc) (vb:=vb) (sa:=sa) (sn:=sn) (sc:=sc) (Aa:=Aa) (Ac:=Ac) (Fa:=Fa) (Fc:=Fc) (Ga:=Ga) (Gc:=Gc) Ts J J J J J (by first | rfl | simp) (by first | rfl | simp) (by first | rfl | simp) (by first | rfl | simp) (by first | rfl | simp) ?_)))))
   refine retL (us:=[_,_]) J ⟨cH J α'119 ζ'119 Tk 0 J (us:=[_,_,_,_]) J J,sV rfl,trivial⟩ (()) (by have h9:lsOk x o t:=(by unfold lsOk;omega);rw [lsF,lsE,if_pos h9,if_pos h9,ls_val hR hi1 hi2,p1,q1,p2,q2];try rfl) (by trivial) ?_
   exact Tf
  obtain ⟨p2,q2⟩:=at_no (L:=L) h2_
  refine qH (qQ (qL (qC (.q 0 ((.l 1 [] (.q 2 (.done))))) Kr ?_)))
  refine kC J J J J α'119 ζ'119 Tk 0 (us:=[_,_,_,_]) Az J J ?_
  refine kR (j:=0) J J J J ζ'119 (us:=[_,_,_,_]) J J J Tk Az (by first | decide | (simp;done) | omega) ?_
  simp only [setL,List.set]
  refine qV (qR J J J J (qS (qW [6,7] (e':=[(6,_),(7,_)]) J ?_)))
  refine qQ (qJ (rh_fold (b:=b) x L (ra:=pa) (rc:=pc) (vb:=vb) (sa:=sa) (sn:=sn) (sc:=sc) (Aa:=Aa) (Ac:=Ac) (Fa:=Fa) (Fc:=Fc) (Ga:=Ga) (Gc:=Gc) Ts J J J J J (by first | rfl | simp) (by first | rfl | simp) (by first | rfl | simp) (by first | rfl | simp) (by first | rfl | simp) ?_))
  refine retL (us:=[_,_]) J ⟨cH J α'119 ζ'119 Tk 0 J (us:=[_,_,_,_]) J J,sV rfl,trivial⟩ (()) (by have h9:lsOk x o t:=(by unfold lsOk;omega);rw [lsF,lsE,if_pos h9,if_pos h9,ls_val hR hi1 rfl,p1,q1,p2,q2];try rfl) (by trivial) ?_
  exact Tf
 obtain ⟨p1,q1⟩:=at_no (L:=L) h1_
 refine qH (qQ (qL (qC (.q 0 (.q 1 (.q 2 ((.l 3 [] (.q 4 (.done))))))) Kr ?_)))
 refine qK J J J J (qK J J J J (qK J J J J ?_))
 have sp_3:=last_spec b Ac Aa (.pointer (some ⟨vb,0,none⟩)) (.int .i64 x.v.ck.th) (.int .i64 x.v.ck.va) (.int .i64 x.v.ck.vo) (.int .i64 x.v.ck.lk) (.slice sa sn sc) (.slice Fa x.vars.length Fc) (.slice Ga x.vars.length Gc) L Om 2 t o
 refine qB J J J J J J κ'80 (sp_3) Ts ?_
 rintro ⟨⟩ -
 try simp only [Ca,Na]
 refine qV (qR J J J J (qS (qW [0,6,8,9] (e':=[(0,_),(6,_),(8,_),(9,_)]) J ?_)))
 refine qQ (qL (qL (qC (.q 0 (.q 1 (.done))) Kr ?_)))
 refine qK J J J J (qD J J J J J (b_geq _ _ _ _) ?_)
 refine qS (qQ ?_)
 refine qF J (fun h2_=>?_) (fun h2_=>?_)
 ·
  obtain ⟨i2,hi2⟩:=Int.eq_ofNat_of_zero_le h2_
  have hlo2:=lastI_lo L (2,t,o) L.length
  obtain ⟨w2,hw2⟩:=cX (l:=L) (i:=i2) Om
  obtain ⟨p2,q2⟩:=at_some hw2
  refine qL (qC (.q 0 (.q 1 (.q 2 (.q 3 (.q 4 (.q 5 (.q 6 (.q 7 (.q 8 ((.l 9 [] (.done)))))))))))) Kr ?_)
  refine qK J J J J (qZ J J J J (qG (k:=6) J J J J υ'75 J ζ'73 J ?_))
  refine qP (j:=6) J J J J α'73 Tk Az (by rfl) ?_
  refine qK J J J J (cK (sz:=4) (k:=i2) (enc:=encKA) (xs:=L) J J J J J υ'73 ζ'112 hw2 (by first | rfl | exact hi2 | omega) Om Tk ?_)
  intro ib74 io74 ha74 hl74 hc74
  refine qG (k:=3) J J J J υ'112 J ζ'3 J ?_
  refine cQ (v:=(.int .i64 w2.2.1)) (j:=3) (k':=i2) (enc:=encKA) (off:=io74) J J J J α'3 ha74 encKA_len hw2 Tk (by first | rfl | exact (Ad _).symm | omega) (by rfl) ?_
  refine qG (k:=1) J J J J υ'119 J ζ'3 J ?_
  refine kR (j:=1) J J J J ζ'3 (us:=[_]) J J J Tk Az (by first | decide | (simp;done) | omega) ?_
  simp only [setL,List.set]
  refine qV (qS (qW [0,6,8,9] (e':=[(0,_),(6,_),(8,_),(9,_)]) J ?_))
  refine qQ (qC (.q 0 (.q 1 (.q 2 (.q 3 (.q 4 (.q 5 (.q 6 (.q 7 (.q 8 ((.l 9 [] (.done)))))))))))) Kr ?_)
  refine qK J J J J (qZ J J J J (qG (k:=6) J J J J υ'75 J ζ'73 J ?_))
  refine qP (j:=6) J J J J α'73 Tk Az (by rfl) ?_
  refine qK J J J J (cK (sz:=4) (k:=i2) (enc:=encKA) (xs:=L) J J J J J υ'73 ζ'112 hw2 (by first | rfl | exact hi2 | omega) Om Tk ?_)
  intro ib83 io83 ha83 hl83 hc83
  refine qG (k:=4) J J J J υ'112 J ζ'97 J ?_
  refine cQ (v:=(.int .u64 w2.2.2)) (j:=4) (k':=i2) (enc:=encKA) (off:=io83) J J J J α'97 ha83 encKA_len hw2 Tk (by first | rfl | exact (Ad _).symm | omega) (by rfl) ?_
  refine qG (k:=3) J J J J υ'119 J ζ'97 J ?_
  refine kR (j:=3) J J J J ζ'97 (us:=[_]) J J J Tk Az (by first | decide | (simp;done) | omega) ?_
  simp only [setL,List.set]
  refine qV (qS (qW [6,8] (e':=[(6,_),(8,_)]) J ?_))
  refine qQ (qL (qC (.q 0 ((.l 1 [] (.q 2 (.done))))) Kr ?_))
  refine kC J J J J α'119 ζ'119 Tk 0 (us:=[_,_,_,_]) Az J J ?_
  refine kR (j:=0) J J J J ζ'119 (us:=[_,_,_,_]) J J J Tk Az (by first | decide | (simp;done) | omega) ?_
  simp only [setL,List.set]
  refine qV (qR J J J J (qS (qQ (qJ (rh_fold (b:=b) x L (ra:=pa) (rc:=pc) (vb:=vb) (sa:=sa) (sn:=sn) (sc:=sc) (Aa:=Aa) (Ac:=Ac) (Fa:=Fa) (Fc:=Fc) (Ga:=Ga) (Gc:=Gc) Ts J J J J J (by first | rfl | simp) (by first | rfl | simp) (by first | rfl | simp) (by first | rfl | simp) (by first | rfl | simp) ?_)))))
  refine retL (us:=[_,_]) J ⟨cH J α'119 ζ'119 Tk 0 J (us:=[_,_,_,_]) J J,sV rfl,trivial⟩ (()) (by have h9:lsOk x o t:=(by unfold lsOk;omega);rw [lsF,lsE,if_pos h9,if_pos h9,ls_val hR J hi2,p1,q1,p2,q2];try rfl) (by trivial) ?_
  exact Tf
 obtain ⟨p2,q2⟩:=at_no (L:=L) h2_
 refine qH (qQ (qL (qC (.q 0 ((.l 1 [] (.q 2 (.done))))) Kr ?_)))
 refine kC J J J J α'119 ζ'119 Tk 0 (us:=[_,_,_,_]) Az J J ?_
 refine kR (j:=0) J J J J ζ'119 (us:=[_,_,_,_]) J J J Tk Az (by first | decide | (simp;done) | omega) ?_
 simp only [setL,List.set]
 refine qV (qR J J J J (qS (qW [6,7] (e':=[(6,_),(7,_)]) J ?_)))
 refine qQ (qJ (rh_fold (b:=b) x L (ra:=pa) (rc:=pc) (vb:=vb) (sa:=sa) (sn:=sn) (sc:=sc) (Aa:=Aa) (Ac:=Ac) (Fa:=Fa) (Fc:=Fc) (Ga:=Ga) (Gc:=Gc) Ts J J J J J (by first | rfl | simp) (by first | rfl | simp) (by first | rfl | simp) (by first | rfl | simp) (by first | rfl | simp) ?_))
 refine retL (us:=[_,_]) J ⟨cH J α'119 ζ'119 Tk 0 J (us:=[_,_,_,_]) J J,sV rfl,trivial⟩ (()) (by have h9:lsOk x o t:=(by unfold lsOk;omega);rw [lsF,lsE,if_pos h9,if_pos h9,ls_val hR J J,p1,q1,p2,q2];try rfl) (by trivial) ?_
 exact Tf
theorem rtoucher_spec (pa:Option Addr) (pc b:Nat) (x:HS) (hx:SInv x) (L:List KA) (hR:HRel L x) (hn:x.v.ck.n≤3000000000000) (z:Int):Spec Tryz.prog 55 [.pointer (some ⟨b,0,none⟩),.int .i64 z] [rhR pa pc b x L] (fun (_:Unit)=>.tuple #[.agg #[.int .i64 (wH x z).2.2.2.1.1,.int .i64 (wH x z).2.2.2.1.2.1,.int .i64 (wH x z).2.2.2.1.2.2],.int .i64 (wH x z).2.2.2.2,.bool (decide ((wH x z).2.2.2.1.1≠0))]) (fun _=>True) (fun _=>[rhR pa pc b x L]):=by
 refine kS (n:=49) Tryz.func55 J J J ?_
 intro Γ w0
 simp only [argE,Ca,Na,Zd,Nat.reduceAdd]
 refine qL (qC ((.l 0 [] (.q 1 (.q 2 (.done))))) Kr ?_)
 refine cY J J J ω'52 (zs:=[.int .i64 0,.int .i64 0,.int .i64 0]) J ?_
 intro b4
 refine qV (qR J J J J (qR J J J J (qS (qQ (qL (qL (qC (.q 0 (.q 1 (.done))) Kr ?_)))))))
 refine qK J J J J (cM J J J J υ'33 ?_)
 refine kF 9 J (v':=.bool false) J ?_
 refine qS (qQ (kN J ?_))
 refine qH (qQ (qL (qL ?_)))
 have hRn:=hR.n
 refine rh_open (ra:=pa) (rc:=pc) (b:=b) (x:=x) (L:=L) Tk fun vb sa sn sc Aa Ac Fa Fc Ga Gc=>?_
 refine qC (.q 0 (.q 1 (.q 2 (.q 3 (.q 4 (.q 5 (.q 6 (.done)))))))) Kr ?_
 refine qK J J J J (qZ J J J J (qG (k:=6) J J J J υ'75 J ζ'73 J ?_))
 refine qP (j:=6) J J J J α'73 Tk Az (by rfl) ?_
 refine sR J J J J υ'73 ?_
 refine qD J J J J J (b_sub' _ (by exact kY Om Om)) ?_
 refine qR J J J J (qS (qW [0,1,4,7] (e':=[(0,_),(1,_),(4,_),(7,_)]) J ?_))
 refine qQ (kV ?_)
 refine sS (α:=Nat) (fun (j:Nat)=>j≤L.length∧lastO L z L.length=lastO L z j) (fun (j:Nat)=>[(7,.int .i64 (((j:Nat):Int) - 1))]) (fun (j:Nat)=>[]) (fun (j:Nat)=>j) [0,1,4] (er:=[(0,_),(1,_),(4,_)]) J (L.length) ?_ (by exact ⟨rfl,trivial⟩) (by (try dsimp only);(try simp only [Ad,Zd]);(repeat ((with_reducible apply Z2);focus (first | (with_reducible (repeat (first | exact Z0 | apply Z1));done) | (repeat (first | exact Z0 | apply Z1)))));exact Z3) ?_
 · exact ⟨Nat.le_refl _,rfl⟩
 rintro j ⟨hj,hl⟩
 try simp only [Ca,Na]
 refine qL (qL (qC (.q 0 (.q 1 (.done))) Kr ?_))
 refine qK J J J J (qD J J J J J (b_geq _ _ _ _) ?_)
 refine qS (qQ ?_)
 refine qF J (fun hlt=>?_) (fun hlt=>?_)
 ·
  obtain ⟨i,rfl⟩:∃ i,j=i+1:=⟨j - 1,by omega⟩
  obtain ⟨w,hw⟩:=cX (l:=L) (i:=i) Om
  refine qH (qQ (qL (kV (qL (qC (.q 0 (.q 1 (.q 2 (.q 3 (.q 4 (.q 5 (.q 6 (.q 7 (.q 8 (.q 9 (.q 10 (.done)))))))))))) Kr ?_)))))
  refine qK J J J J (qZ J J J J (qG (k:=6) J J J J υ'75 J ζ'73 J ?_))
  refine qP (j:=6) J J J J α'73 Tk Az (by rfl) ?_
  refine qK J J J J (cK (sz:=4) (k:=i) (enc:=encKA) (xs:=L) J J J J J υ'73 ζ'112 hw (by first | rfl | omega) Om Tk ?_)
  intro ib26 io26 ha26 hl26 hc26
  refine qG (k:=0) J J J J υ'112 J ζ'52 J ?_
  refine qG (k:=2) J J J J υ'52 J ζ'3 J ?_
  refine cQ (v:=(.int .i64 w.1.2.2)) (j:=2) (k':=i) (enc:=encKA) (off:=io26) J J J J α'3 ha26 encKA_len hw Tk (by first | rfl | exact (Ad _).symm | omega) (by rfl) ?_
  refine qK J J J J (qD J J J J J (cZ _ _ _ _) ?_)
  refine qS (qW [0,1,4,7,31] (e':=[(0,_),(1,_),(4,_),(7,_),(31,_)]) J ?_)
  refine qQ ?_
  refine qF J (fun hne=>?_) (fun hne=>?_)
  ·
   refine qL (kM J (.q 0 (.q 1 (.q 2 (.q 3 (.q 4 (.q 5 (.q 6 (.q 7 (.q 8 (.q 9 (.q 10 (.q 11 (.q 12 (.q 13 (.q 14 (.q 15 ((.l 16 [11,15] (.q 17 (.q 18 (.done))))))))))))))))))))) Kr ?_)
   refine qK J J J J (qZ J J J J (qG (k:=6) J J J J υ'75 J ζ'73 J ?_))
   refine qP (j:=6) J J J J α'73 Tk Az (by rfl) ?_
   refine qK J J J J (cK (sz:=4) (k:=i) (enc:=encKA) (xs:=L) J J J J J υ'73 ζ'112 hw (by first | rfl | omega) Om Tk ?_)
   intro ib37 io37 ha37 hl37 hc37
   refine qG (k:=0) J J J J υ'112 J ζ'52 J ?_
   refine rS (j:=0) (k':=i) (us:=[_,_,_]) (enc:=encKA) (off:=io37) J J J J α'52 ζ'52 ha37 encKA_len hw Tk (by first | rfl | exact (Ad _).symm | omega) (by rfl) J ?_
   refine qK J J J J (qZ J J J J (qG (k:=6) J J J J υ'75 J ζ'73 J ?_))
   refine qP (j:=6) J J J J α'73 Tk Az (by rfl) ?_
   refine qK J J J J (cK (sz:=4) (k:=i) (enc:=encKA) (xs:=L) J J J J J υ'73 ζ'112 hw (by first | rfl | omega) Om Tk ?_)
   intro ib45 io45 ha45 hl45 hc45
   refine qG (k:=3) J J J J υ'112 J ζ'3 J ?_
   refine cQ (v:=(.int .i64 w.2.1)) (j:=3) (k':=i) (enc:=encKA) (off:=io45) J J J J α'3 ha45 encKA_len hw Tk (by first | rfl | exact (Ad _).symm | omega) (by rfl) ?_
   refine kR (j:=0) J J J J ζ'52 (us:=[_,_,_]) J J J Tk Az (by first | decide | (simp;done) | omega) ?_
   simp only [setL,List.set]
   refine qM (q:=6) J J J α'73 Tk Az (by rfl) ?_
   refine ag_load_O (v:=(.int .i64 w.2.1)) (j:=3) (k':=i) (enc:=encKA) (off:=io45) J J J α'3 ha45 encKA_len hw Tk (by first | rfl | exact (Ad _).symm | omega) (by rfl) ?_
   refine qV (qR J J J J (qR J J J J (qS (qW [4,5,6] (e':=[(4,_),(5,_),(6,_)]) J ?_))))
   refine qQ (qJ (kH (qN (qN (kH (qN (rh_fold (b:=b) x L (ra:=pa) (rc:=pc) (vb:=vb) (sa:=sa) (sn:=sn) (sc:=sc) (Aa:=Aa) (Ac:=Ac) (Fa:=Fa) (Fc:=Fc) (Ga:=Ga) (Gc:=Gc) Ts J J J J J (by first | rfl | simp) (by first | rfl | simp) (by first | rfl | simp) (by first | rfl | simp) (by first | rfl | simp) ?_)))))))
   refine retL (us:=[_,_,_]) J ⟨cH J α'52 ζ'52 Tk 0 J (us:=[_,_,_]) J J,sV rfl,sV rfl,trivial⟩ (()) (by obtain ⟨t1,t2⟩:=tou_yes hR (hl.trans (lastO_yes hw hne)) hw hne;rw [t1];rw [decide_eq_true t2];try rfl) (by trivial) ?_
   exact Tf
  refine qH (kG (qQ (qC (.q 0 (.q 1 (.q 2 (.done)))) Kr ?_)))
  refine qK J J J J (qD J J J J J (b_sub' _ (by exact kY Om Om)) ?_)
  refine qR J J J J (qS (qQ (kF 7 J (v':=.int .i64 (((i:Nat):Int) - 1)) (by first | rfl | (congr 1;done) | (congr 1 <;> first | rfl | omega | (simp;done) | (simp;omega))) ?_)))
  refine kZ (x:=(i+1)) (i) ?_ ?_ ?_ ?_
  · exact ⟨by omega,hl.trans (lastO_no hw hne)⟩
  · show i < i+1;omega
  · exact ⟨rfl,rfl,rfl,rfl,trivial⟩
  · (try simp only [Ca,Na]);exact Tf
 refine cS (qY (qY (kK (qQ (qL (qC (.q 0 ((.l 1 [] (.q 2 (.q 3 (.done)))))) Kr ?_))))))
 refine kB J J J J (vs:=[_,_,_]) (kQ υ'52 ω'52 (ps:=[(0,1),(1,1),(2,1)]) ⟨rfl,ζ'50,rfl,ζ'3,rfl,ζ'3,trivial⟩ rfl) ?_
 refine kR (j:=0) J J J J ζ'52 (us:=[_,_,_]) J J J Tk Az (by first | decide | (simp;done) | omega) ?_
 simp only [setL,List.set]
 refine qV (qR J J J J (qR J J J J (qS (qW [4,5,6] (e':=[(4,_),(5,_),(6,_)]) J ?_))))
 refine qQ (qJ ?_)
 obtain rfl:j=0:=by omega
 refine rh_fold (b:=b) x L (ra:=pa) (rc:=pc) (vb:=vb) (sa:=sa) (sn:=sn) (sc:=sc) (Aa:=Aa) (Ac:=Ac) (Fa:=Fa) (Fc:=Fc) (Ga:=Ga) (Gc:=Gc) Ts J J J J J (by first | rfl | simp) (by first | rfl | simp) (by first | rfl | simp) (by first | rfl | simp) (by first | rfl | simp) ?_
 refine retL (us:=[_,_,_]) J ⟨cH J α'52 ζ'52 Tk 0 J (us:=[_,_,_]) J J,sV rfl,sV rfl,trivial⟩ (()) (by rw [tou_no hR hl];rfl) (by trivial) ?_
 exact Tf
theorem ragq_spec (pa:Option Addr) (pc b:Nat) (x:HS) (hx:SInv x) (L:List KA) (hR:HRel L x) (hn:x.v.ck.n≤3000000000000) (k t o:Int):Spec Tryz.prog 53 [.pointer (some ⟨b,0,none⟩),.agg #[.int .i64 k,.int .i64 t,.int .i64 o]] [rhR pa pc b x L] (fun (r:Option Addr × Nat)=>.tuple #[.slice r.1 (if canF x.v.ck k t o then agF x k t o else []).length r.2,.int .i64 (if canF x.v.ck k t o then 0 else 6)]) (fun r=>True) (fun r=>[rhR pa pc b x L,own 1 encZ r.1 r.2 (if canF x.v.ck k t o then agF x k t o else [])]):=by
 refine kS (n:=21) Tryz.func53 J J J ?_
 intro Γ w0
 simp only [argE,Ca,Na,Zd,Nat.reduceAdd]
 refine qL (qC ((.l 0 [] (.q 1 (.q 2 (.done))))) Kr ?_)
 refine sG J J J J (us:=[_,_,_]) J ?_
 intro b3
 refine qV (qR J J J J (qR J J J J (qS (qQ (qL (qL (qC (.q 0 (.q 1 (.done))) Kr ?_)))))))
 refine qK J J J J (cM J J J J υ'33 ?_)
 refine kF 7 J (v':=.bool false) J ?_
 refine qS (qW [0,3,7] (e':=[(0,_),(3,_),(7,_)]) J ?_)
 refine qQ (kN J ?_)
 refine qH (qQ (qL (qL (rh_open (ra:=pa) (rc:=pc) (b:=b) (x:=x) (L:=L) Tk fun vb sa sn sc Aa Ac Fa Fc Ga Gc=>?_))))
 refine rv_open (pa:=pa) (pc:=pc) (b:=vb) (x:=x.v) Tk fun cb Ta Tc La Lc Oa Oc Ra Rc VT VL VO VR YR hVT hVL hVO hVR hK=>?_
 refine kM J (.q 0 (.q 1 (.q 2 (.q 3 (.q 4 (.q 5 (.q 6 (.q 7 ((.l 8 [] (.q 9 (.done)))))))))))) Kr ?_
 refine qK J J J J (qZ J J J J (qG (k:=0) J J J J υ'75 J ζ'70 J ?_))
 refine qP (j:=0) J J J J α'70 Tk Az (by rfl) ?_
 refine qZ J J J J (qG (k:=0) J J J J υ'104 J ζ'98 J ?_)
 refine qP (j:=0) J J J J α'98 Tk Az (by rfl) ?_
 refine kC J J J J α'52 ζ'52 Tk 0 (us:=[_,_,_]) Az J J ?_
 have sp_1:=Fe.rcan_spec pa pc cb x.v.ck hx.v.ck k t o
 refine qB J J J J J J Tryz.call78 (sp_1) Ts ?_
 rintro ⟨⟩ -
 try simp only [Ca,Na]
 refine qV (rK J J J J ?_)
 refine qS (rv_fold (b:=vb) x.v (pa:=pa) (pc:=pc) (cb:=cb) (Ta:=Ta) (Tc:=Tc) (La:=La) (Lc:=Lc) (Oa:=Oa) (Oc:=Oc) (Ra:=Ra) (Rc:=Rc) (VT:=VT) (VL:=VL) (VO:=VO) (VR:=VR) (YR:=YR) Ts (by first | rfl | simp) (by first | rfl | simp) (by first | rfl | simp) (by first | rfl | simp) J J J J hVT hVL hVO hVR hK ?_)
 refine qW [0,3,17] (e':=[(0,_),(3,_),(17,_)]) J ?_
 refine qQ ?_
 refine c_cond_np J (fun hc=>?_) (fun hc=>?_)
 ·
  refine qL (qC (.q 0 (.q 1 (.done))) Kr ?_)
  refine qR J J J J (qR J J J J (qS (qQ (qJ (qN (cL (fun _ h=>sY (sz:=1) (enc:=encZ) h) ?_))))))
  refine rh_fold (b:=b) x L (ra:=pa) (rc:=pc) (vb:=vb) (sa:=sa) (sn:=sn) (sc:=sc) (Aa:=Aa) (Ac:=Ac) (Fa:=Fa) (Fc:=Fc) (Ga:=Ga) (Gc:=Gc) Ts J J J J J (by first | rfl | simp) (by first | rfl | simp) (by first | rfl | simp) (by first | rfl | simp) (by first | rfl | simp) ?_
  rw [if_neg hc,if_neg hc]
  refine ret2 J J J ((none,0)) (by rfl) (by trivial) ?_
  exact Tf
 refine qH (qQ (qL (rh_fold (b:=b) x L (ra:=pa) (rc:=pc) (vb:=vb) (sa:=sa) (sn:=sn) (sc:=sc) (Aa:=Aa) (Ac:=Ac) (Fa:=Fa) (Fc:=Fc) (Ga:=Ga) (Gc:=Gc) Ts J J J J J (by first | rfl | simp) (by first | rfl | simp) (by first | rfl | simp) (by first | rfl | simp) (by first | rfl | simp) ?_)))
 refine qC (.q 0 (.q 1 ((.l 2 [] (.q 3 (.q 4 (.done))))))) Kr ?_
 refine qK J J J J (kC J J J J α'52 ζ'52 Tk 0 (us:=[_,_,_]) Az J J ?_)
 have sp_2:=rag_spec pa pc b x hx L hR hn k t o (fun _=>hc)
 refine qB J J J J J J Tryz.call36 (sp_2) Ts ?_
 rintro ⟨ga,gc⟩ -
 try simp only [Ca,Na]
 refine qV (qR J J J J (qR J J J J (qS (qW [4,5] (e':=[(4,_),(5,_)]) J ?_))))
 refine qQ (qJ ?_)
 rw [if_pos hc,if_pos hc]
 refine ret2 J J J ((ga,gc)) (by rfl) (by trivial) ?_
 exact Tf
theorem rpairs_spec (pa:Option Addr) (pc b:Nat) (x:HS) (hx:SInv x) (L:List KA) (hR:HRel L x) (hn:x.v.ck.n≤3000000000000):Spec Tryz.prog 44 [.pointer (some ⟨b,0,none⟩)] [rhR pa pc b x L] (fun (r:Option Addr × Nat)=>.slice r.1 (prF x.vars).length r.2) (fun r=>True) (fun r=>[rhR pa pc b x L,own 3 enc3 r.1 r.2 (prF x.vars)]):=by
 refine kS (n:=37) Tryz.func44 J J J ?_
 intro Γ w0
 simp only [argE,Ca,Na,Zd,Nat.reduceAdd]
 refine qL (qC (.q 0 (.done)) Kr ?_)
 refine qR J J J J (qS (qQ (qL (qC (.q 0 (.done)) Kr ?_))))
 refine qR J J J J (qS (qQ (qL (qL (qC (.q 0 (.q 1 (.done))) Kr ?_)))))
 refine qK J J J J (cM J J J J υ'33 ?_)
 refine kF 6 J (v':=.bool false) J ?_
 refine qS (qQ (kN J ?_))
 refine qH (qQ (qL (qL ?_)))
 have hva:=hx.v.ck.sh.va
 have hvl:=hx.len
 refine rh_open (ra:=pa) (rc:=pc) (b:=b) (x:=x) (L:=L) Tk fun vb sa sn sc Aa Ac Fa Fc Ga Gc=>?_
 refine qC (.q 0 (.done)) Kr ?_
 refine qR J J J J (qS (qQ (kV (cL (fun _ h=>sY (sz:=3) (enc:=enc3) h) ?_))))
 refine sS (α:=Nat × Option Addr × Nat) (fun (x_:Nat × Option Addr × Nat)=>match x_ with | (i,ga,gc)=>i≤x.vars.length) (fun (x_:Nat × Option Addr × Nat)=>match x_ with | (i,ga,gc)=>[(3,.slice ga ((prF (x.vars.take i)).length) gc),(4,.int .i64 ((i:Nat):Int))]) (fun (x_:Nat × Option Addr × Nat)=>match x_ with | (i,ga,gc)=>[own 3 enc3 ga gc (prF (x.vars.take i))]) (fun (x_:Nat × Option Addr × Nat)=>match x_ with | (i,ga,gc)=>x.vars.length - i) [0] (er:=[(0,_)]) J (0,none,0) ?_ (by exact ⟨rfl,rfl,trivial⟩) (by (try dsimp only);(try simp only [Ad,Zd]);rw [List.take_zero,show prF ([]:List Tld)=[] from rfl];(repeat ((with_reducible apply Z2);focus (first | (with_reducible (repeat (first | exact Z0 | apply Z1));done) | (repeat (first | exact Z0 | apply Z1)))));exact Z3) ?_
 · exact Nat.zero_le _
 rintro ⟨i,ga,gc⟩ hle_i
 try simp only [Ca,Na]
 have hfl:=prF_len (x.vars.take i)
 rw [List.length_take] at hfl
 refine qL (qL (qC (.q 0 (.q 1 (.q 2 (.q 3 (.q 4 (.q 5 (.q 6 (.done)))))))) Kr ?_))
 refine qK J J J J (qK J J J J (qZ J J J J (qG (k:=7) J J J J υ'75 J ζ'62 J ?_)))
 refine qP (j:=7) J J J J α'62 Tk Az (by rfl) ?_
 refine sR J J J J υ'62 ?_
 refine qD J J J J J (sK _ _ _ _) ?_
 refine qS (qW [0,3,4,14] (e':=[(0,_),(3,_),(4,_),(14,_)]) J ?_)
 refine qQ ?_
 refine qF J (fun hlt=>?_) (fun hlt=>?_)
 ·
  obtain ⟨w,hw⟩:=cX (l:=x.vars) (i:=i) Om
  have hwf:(x.vars.map fsF)[i]?=some (fsF w):=by rw [List.getElem?_map,hw];rfl
  have hpc:=pr_cond (hR.r w (List.mem_of_getElem? hw))
  refine qH (qQ (qL (kV (qL (qC (.q 0 (.q 1 (.q 2 (.q 3 (.q 4 (.q 5 (.q 6 (.q 7 (.q 8 (.done)))))))))) Kr ?_)))))
  refine qK J J J J (qZ J J J J (qG (k:=7) J J J J υ'75 J ζ'62 J ?_))
  refine qP (j:=7) J J J J α'62 Tk Az (by rfl) ?_
  refine qK J J J J (cK (sz:=2) (k:=i) (enc:=enc3) (xs:=(x.vars.map fsF)) J J J J J υ'62 ζ'65 hwf (by first | rfl | omega) Om Tk ?_)
  intro ib22 io22 ha22 hl22 hc22
  refine qG (k:=2) J J J J υ'65 J ζ'3 J ?_
  refine cQ (v:=(.int .i64 ((fsF w).2.2))) (j:=2) (k':=i) (enc:=enc3) (off:=io22) J J J J α'3 ha22 enc3_len hwf Tk (by first | rfl | exact (Ad _).symm | omega) (by rfl) ?_
  refine qD J J J J J (b_geq _ _ _ _) ?_
  refine qS (qW [0,3,4,25] (e':=[(0,_),(3,_),(4,_),(25,_)]) J ?_)
  refine qQ ?_
  refine qF J (fun hfg=>?_) (fun hfg=>?_)
  ·
   refine qC (.q 0 (.q 1 (.q 2 (.q 3 (.q 4 (.q 5 (.q 6 (.q 7 ((.l 8 [] ((.l 9 [] (.q 10 (.done)))))))))))))) Kr ?_
   refine qK J J J J (qK J J J J (qZ J J J J (qG (k:=7) J J J J υ'75 J ζ'62 J ?_)))
   refine qP (j:=7) J J J J α'62 Tk Az (by rfl) ?_
   refine qK J J J J (cK (sz:=2) (k:=i) (enc:=enc3) (xs:=(x.vars.map fsF)) J J J J J υ'62 ζ'65 hwf (by first | rfl | omega) Om Tk ?_)
   intro ib32 io32 ha32 hl32 hc32
   refine rS (j:=0) (k':=i) (us:=[_,_,_]) (enc:=enc3) (off:=io32) J J J J α'65 ζ'65 ha32 enc3_len hwf Tk (by first | rfl | exact (Ad _).symm | omega) (by rfl) J ?_
   refine kJ J J J J (cW (us:=[_,_,_]) υ'62 ζ'65 J ω'65 J J J) ?_
   intro b34
   refine qV (cN (sz:=3) (enc:=enc3) (xs:=(prF (x.vars.take i))) J J J J J υ'62 τ'65 J J J (by decide) Tk Tk (by first | rfl | omega | (simp;done) | (simp;omega)) (ys:=[(fsF w)]) (cJ cB) (by rfl) (by first | rfl | omega) (enc3_len) (enc3_one) Om (by show _*24≤_;omega) ?_)
   intro ao35 cp35
   refine qV (qR J J J J (qS (qW [0,3,4] (e':=[(0,_),(3,_),(4,_)]) J ?_)))
   refine kG (qQ (qC (.q 0 (.q 1 (.q 2 (.done)))) Kr ?_))
   refine qK J J J J (qD J J J J J (cF _ (by exact kY Om Om)) ?_)
   refine qR J J J J (qS (qQ ?_))
   have hnx:=prF_next hw
   rw [if_pos (hpc.1 hfg),show w.1=fsF w from (if_pos (hpc.1 hfg)).symm] at hnx
   rw [← hnx]
   refine kF 3 J (v':=.slice ao35 (prF (x.vars.take (i+1))).length cp35) (by rw [hnx,List.length_append];rfl) ?_
   refine kF 3 J (v':=.slice ao35 ((prF (x.vars.take (i+1))).length) cp35) (by first | rfl | (congr 1;done) | (congr 1 <;> first | rfl | omega | (simp;done) | (simp;omega))) ?_
   refine kZ (x:=(i,ga,gc)) ((i+1,ao35,cp35)) ?_ ?_ ?_ ?_
   · try dsimp only
     omega
   · show x.vars.length - (i+1) < x.vars.length - i;omega
   · exact ⟨rfl,rfl,rfl,trivial⟩
   · (try simp only [Ca,Na]);exact Tf
  refine qH (kG (qQ (qC (.q 0 (.q 1 (.q 2 (.done)))) Kr ?_)))
  refine qK J J J J (qD J J J J J (cF _ (by exact kY Om Om)) ?_)
  refine qR J J J J (qS (qQ ?_))
  have hnx:=prF_next hw
  rw [if_neg (fun q=>hfg (hpc.2 q)),List.append_nil] at hnx
  rw [← hnx]
  refine kF 3 J (v':=.slice ga ((prF (x.vars.take (i+1))).length) gc) (by first | rfl | (congr 1;done) | (congr 1 <;> first | rfl | omega | (simp;done) | (simp;omega))) ?_
  refine kZ (x:=(i,ga,gc)) ((i+1,ga,gc)) ?_ ?_ ?_ ?_
  · try dsimp only
    omega
  · show x.vars.length - (i+1) < x.vars.length - i;omega
  · exact ⟨rfl,rfl,rfl,trivial⟩
  · (try simp only [Ca,Na]);exact Tf
 refine cS (qY (qY (kK (qQ (qL (qC (.q 0 (.q 1 (.done))) Kr ?_))))))
 refine qK J J J J (qR J J J J (qS (qW [2] (e':=[(2,_)]) J ?_)))
 refine qQ (qJ ?_)
 obtain rfl:i=x.vars.length:=by omega
 rw [List.take_length]
 refine rh_fold (b:=b) x L (ra:=pa) (rc:=pc) (vb:=vb) (sa:=sa) (sn:=sn) (sc:=sc) (Aa:=Aa) (Ac:=Ac) (Fa:=Fa) (Fc:=Fc) (Ga:=Ga) (Gc:=Gc) Ts J J J J J (by first | rfl | simp) (by first | rfl | simp) (by first | rfl | simp) (by first | rfl | simp) (by first | rfl | simp) ?_
 refine cR J J ((ga,gc)) (by first | rfl | (first | rfl | (congr 1;done) | (congr 1 <;> first | rfl | omega | (simp;done) | (simp;omega)))) (by trivial) ?_
 exact Tf
theorem rnew_spec (th va vo lk:Int) (pl:List Int) (ao:Option Addr) (n c:Nat) (A:HProp) (hr:RdS A ao (pl.flatMap encZ)) (hn:pl.length=n) (hb:n≤4000000) (hok:OkS th va vo lk pl):Spec Tryz.prog 6 [.agg #[.int .i64 th,.int .i64 va,.int .i64 vo,.int .i64 lk,.slice ao n c]] [A] (fun (r:Nat × Option Addr × Nat)=>.tuple #[.pointer (some ⟨r.1,0,none⟩),.int .i64 0]) (fun r=>True) (fun r=>[A,own 1 encZ r.2.1 r.2.2 pl,rhR r.2.1 r.2.2 r.1 (hNew th va vo lk pl) []]):=by
 refine kS (n:=47) Tryz.func6 J J J ?_
 intro Γ w0
 simp only [argE,Ca,Na,Zd,Nat.reduceAdd]
 refine qL (qC ((.l 0 [] (.q 1 (.q 2 (.done))))) Kr ?_)
 refine sG J J J J (us:=[_,_,_,_,_]) J ?_
 intro b1
 refine qV (qR J J J J (qR J J J J (qS (qQ (qL (qC (.q 0 ((.l 1 [] (.q 2 (.q 3 (.q 4 (.q 5 (.q 6 (.done))))))))) Kr ?_))))))
 refine kC J J J J α'24 ζ'24 Tk 0 (us:=[_,_,_,_,_]) Az J J ?_
 have sp_1:=Rv.begin_spec th va vo lk pl ao n c A hr hn hb hok
 refine qB J J J J J J Tryz.call17 (sp_1) Ts ?_
 rintro ⟨vb,pa,pc⟩ -
 try simp only [Ca,Na]
 refine qV (qK J J J J (kX J J J J J (kX J J J J J (qR J J J J (qR J J J J (qS (qW [1,4,5] (e':=[(1,_),(4,_),(5,_)]) J ?_)))))))
 refine qQ (qL (qL (qC (.q 0 (.q 1 (.done))) Kr ?_)))
 refine qK J J J J (qD J J J J J (b_neq _ _ _ _) ?_)
 refine kF 14 J (v':=.bool false) (by first | rfl | simp) ?_
 refine qS (qQ (kN J ?_))
 refine qH (qQ (qL (qC (.q 0 (.q 1 (.q 2 ((.l 3 [] (.q 4 (.done))))))) Kr ?_)))
 refine qK J J J J (kC J J J J α'24 ζ'24 Tk 0 (us:=[_,_,_,_,_]) Az J J ?_)
 refine kB J J J J (vs:=[_,_,_,_,_,_,_,_,_]) (kQ υ'75 Tryz.zeroValue75 (ps:=[(0,1),(1,5),(6,1),(7,1),(8,1)]) ⟨rfl,ζ'70,rfl,ζ'24,rfl,ζ'73,rfl,ζ'62,rfl,ζ'62,trivial⟩ rfl) ?_
 refine sG J J J J (us:=[_,_,_,_,_,_,_,_,_]) J ?_
 intro b19
 refine qV (qR J J J J (qS (qW [1,6] (e':=[(1,_),(6,_)]) J ?_)))
 refine qQ (qL (qL ?_))
 obtain ⟨nv,hnv⟩:∃ q:Nat,va=(q:Int):=⟨va.toNat,by have:=hok.va;omega⟩
 have hvb:=hok.va
 refine cL (fun _ h=>sY (sz:=3) (enc:=enc3) h) ?_
 refine cL (fun _ h=>sY (sz:=3) (enc:=enc3) h) ?_
 refine qC (.q 0 (.done)) Kr ?_
 refine qR J J J J (qS (qQ (kV ?_)))
 refine sS (α:=Nat × Option Addr × Nat × Option Addr × Nat) (fun (x_:Nat × Option Addr × Nat × Option Addr × Nat)=>match x_ with | (k,fa,fc,ga,gc)=>k≤nv) (fun (x_:Nat × Option Addr × Nat × Option Addr × Nat)=>match x_ with | (k,fa,fc,ga,gc)=>[(7,.int .i64 ((k:Nat):Int))]) (fun (x_:Nat × Option Addr × Nat × Option Addr × Nat)=>match x_ with | (k,fa,fc,ga,gc)=>[cells b19 0 [.pointer (some ⟨vb,0,none⟩),.int .i64 th,.int .i64 va,.int .i64 vo,.int .i64 lk,.slice ao n c,.slice none 0 0,.slice fa k fc,.slice ga k gc],own 3 enc3 fa fc (List.replicate k ((0,0,-1):T3)),own 3 enc3 ga gc (List.replicate k ((0,0,-1):T3))]) (fun (x_:Nat × Option Addr × Nat × Option Addr × Nat)=>match x_ with | (k,fa,fc,ga,gc)=>nv - k) [1,6] (er:=[(1,_),(6,_)]) J (0,none,0,none,0) ?_ (by exact ⟨rfl,trivial⟩) (by (try dsimp only);(try simp only [Ad,Zd]);(repeat ((with_reducible apply Z2);focus (first | (with_reducible (repeat (first | exact Z0 | apply Z1));done) | (repeat (first | exact Z0 | apply Z1)))));exact Z3) ?_
 · exact Nat.zero_le _
 rintro ⟨k,fa,fc,ga,gc⟩ hle_k
 try simp only [Ca,Na]
 refine qL (qL (qC (.q 0 (.q 1 (.q 2 (.q 3 (.done))))) Kr ?_))
 refine qK J J J J (qG (k:=1) J J J J υ'24 J ζ'3 J ?_)
 refine qP (j:=1) J J J J α'3 Tk Az (by rfl) ?_
 refine kF 22 J (v':=.int .i64 ((nv:Nat):Int)) (by rw [hnv]) ?_
 refine qD J J J J J (sK _ _ _ _) ?_
 refine qS (qQ ?_)
 refine qF J (fun hlt=>?_) (fun hlt=>?_)
 ·
  refine qH (qQ (qL (kV (qL (qC (.q 0 (.q 1 (.q 2 (.q 3 (.q 4 (.q 5 ((.l 6 [] ((.l 7 [] (.q 8 (.q 9 ((.l 10 [] (.done))))))))))))))) Kr ?_)))))
  refine qK J J J J (qK J J J J (qZ J J J J (qG (k:=7) J J J J υ'75 J ζ'62 J ?_)))
  refine qP (j:=7) J J J J α'62 Tk Az (by rfl) ?_
  refine kB J J J J (vs:=[_,_,_]) (kQ υ'65 ω'65 (ps:=[(0,1),(1,1),(2,1)]) ⟨rfl,ζ'3,rfl,ζ'3,rfl,ζ'3,trivial⟩ rfl) ?_
  refine kJ J J J J (cW (us:=[_,_,_]) υ'62 ζ'65 J ω'65 J J J) ?_
  intro b32
  refine qV (cN (sz:=3) (enc:=enc3) (xs:=(List.replicate k ((0,0,-1):T3))) J J J J J υ'62 τ'65 J J J (by decide) Tk Tk (by simp) (ys:=[((0,0,-1):T3)]) (cJ cB) (by rfl) (by first | rfl | omega) (enc3_len) (enc3_one) Om (by show _*24≤_;omega) ?_)
  intro ao33 cp33
  refine kF 33 J (v':=.slice ao33 (k+1) cp33) (by first | rfl | (congr 1;done) | (congr 1 <;> first | rfl | omega | (simp;done) | (simp;omega))) ?_
  refine qV (qZ J J J J (qG (k:=7) J J J J υ'75 J ζ'62 J ?_))
  refine kR (j:=7) J J J J ζ'62 (us:=[_]) J J J Tk Az (by first | decide | (simp;done) | omega) ?_
  simp only [setL,List.set]
  refine qV (qS (qW [1,6,7] (e':=[(1,_),(6,_),(7,_)]) J ?_))
  refine qQ (qC (.q 0 (.q 1 (.q 2 (.q 3 (.q 4 (.q 5 ((.l 6 [] ((.l 7 [] (.q 8 (.q 9 ((.l 10 [] (.done))))))))))))))) Kr ?_)
  refine qK J J J J (qK J J J J (qZ J J J J (qG (k:=8) J J J J υ'75 J ζ'62 J ?_)))
  refine qP (j:=8) J J J J α'62 Tk Az (by rfl) ?_
  refine kB J J J J (vs:=[_,_,_]) (kQ υ'65 ω'65 (ps:=[(0,1),(1,1),(2,1)]) ⟨rfl,ζ'3,rfl,ζ'3,rfl,ζ'3,trivial⟩ rfl) ?_
  refine kJ J J J J (cW (us:=[_,_,_]) υ'62 ζ'65 J ω'65 J J J) ?_
  intro b42
  refine qV (cN (sz:=3) (enc:=enc3) (xs:=(List.replicate k ((0,0,-1):T3))) J J J J J υ'62 τ'65 J J J (by decide) Tk Tk (by simp) (ys:=[((0,0,-1):T3)]) (cJ cB) (by rfl) (by first | rfl | omega) (enc3_len) (enc3_one) Om (by show _*24≤_;omega) ?_)
  intro ao43 cp43
  refine kF 43 J (v':=.slice ao43 (k+1) cp43) (by first | rfl | (congr 1;done) | (congr 1 <;> first | rfl | omega | (simp;done) | (simp;omega))) ?_
  refine qV (qZ J J J J (qG (k:=8) J J J J υ'75 J ζ'62 J ?_))
  refine kR (j:=8) J J J J ζ'62 (us:=[_]) J J J Tk Az (by first | decide | (simp;done) | omega) ?_
  simp only [setL,List.set]
  refine qV (qS (qW [1,6,7] (e':=[(1,_),(6,_),(7,_)]) J ?_))
  refine kG (qQ (qC (.q 0 (.q 1 (.q 2 (.done)))) Kr ?_))
  refine qK J J J J (qD J J J J J (cF _ (by exact kY Om Om)) ?_)
  refine qR J J J J (qS (qQ ?_))
  rw [← List.replicate_succ']
  refine kZ (x:=(k,fa,fc,ga,gc)) ((k+1,ao33,cp33,ao43,cp43)) ?_ ?_ ?_ ?_
  · try dsimp only
    omega
  · show nv - (k+1) < nv - k;omega
  · exact ⟨rfl,rfl,rfl,trivial⟩
  · (try simp only [Ca,Na]);exact Tf
 refine cS (qY (qY (kK (qQ (qL (qC (.q 0 (.q 1 (.q 2 (.done)))) Kr ?_))))))
 refine qK J J J J (qR J J J J (qR J J J J (qS (qW [2,3] (e':=[(2,_),(3,_)]) J ?_))))
 refine qQ (qJ ?_)
 obtain rfl:k=nv:=by omega
 refine cL (fun _ h=>sY (sz:=5) (enc:=encKA) h) ?_
 refine rh_fold (b:=b19) (hNew th va vo lk pl) [] (ra:=pa) (rc:=pc) (vb:=vb) (sa:=ao) (sn:=n) (sc:=c) (Aa:=none) (Ac:=0) (Fa:=fa) (Fc:=fc) (Ga:=ga) (Gc:=gc) Ts J J J J J J (by simp [hNew,hnv]) (by simp [hNew,hnv]) (by simp [hNew,hnv,fsF,t0]) (by simp [hNew,hnv,rcF,t0]) ?_
 refine ret2 J J J ((b19,pa,pc)) (by first | rfl | (first | rfl | (congr 1;done) | (congr 1 <;> first | rfl | omega | (simp;done) | (simp;omega)))) (by trivial) ?_
 exact Tf
theorem rnewbad_spec (th va vo lk:Int) (pl:List Int) (ao:Option Addr) (n c:Nat) (A:HProp) (hr:RdS A ao (pl.flatMap encZ)) (hn:pl.length=n) (hb:n≤4000000) (hok:¬ OkS th va vo lk pl):Spec Tryz.prog 6 [.agg #[.int .i64 th,.int .i64 va,.int .i64 vo,.int .i64 lk,.slice ao n c]] [A] (fun (_:Unit)=>.tuple #[.pointer none,.int .i64 5]) (fun _=>True) (fun _=>[A]):=by
 refine kS (n:=47) Tryz.func6 J J J ?_
 intro Γ w0
 simp only [argE,Ca,Na,Zd,Nat.reduceAdd]
 refine qL (qC ((.l 0 [] (.q 1 (.q 2 (.done))))) Kr ?_)
 refine sG J J J J (us:=[_,_,_,_,_]) J ?_
 intro b1
 refine qV (qR J J J J (qR J J J J (qS (qQ (qL (qC (.q 0 ((.l 1 [] (.q 2 (.q 3 (.q 4 (.q 5 (.q 6 (.done))))))))) Kr ?_))))))
 refine kC J J J J α'24 ζ'24 Tk 0 (us:=[_,_,_,_,_]) Az J J ?_
 have sp_1:=Rv.beginbad_spec th va vo lk pl ao n c A hr hn hb hok
 refine qB J J J J J J Tryz.call17 (sp_1) Ts ?_
 rintro ⟨⟩ -
 try simp only [Ca,Na]
 refine qV (qK J J J J (kX J J J J J (kX J J J J J (qR J J J J (qR J J J J (qS (qW [1,4,5] (e':=[(1,_),(4,_),(5,_)]) J ?_)))))))
 refine qQ (qL (qL (qC (.q 0 (.q 1 (.done))) Kr ?_)))
 refine qK J J J J (qD J J J J J (b_neq _ _ _ _) ?_)
 refine kF 14 J (v':=.bool true) (by first | rfl | simp) ?_
 refine qS (qQ (cC J ?_))
 refine qL (qC (.q 0 (.q 1 (.q 2 (.done)))) Kr ?_)
 refine qK J J J J (qR J J J J (qR J J J J (qS (qW [2,3] (e':=[(2,_),(3,_)]) J ?_))))
 refine qQ (qJ (qN (ret2 J J J (()) (by first | rfl | (first | rfl | (congr 1;done) | (congr 1 <;> first | rfl | omega | (simp;done) | (simp;omega)))) (by trivial) ?_)))
 exact Tf
abbrev rt21_4_9_14_15_20_21_26:RT:=(.l 28 [] (.q 29 (.done)))
abbrev rt21_4_9_14_15_20_21:RT:=(.l 26 [8] (.q 27 (rt21_4_9_14_15_20_21_26)))
abbrev rt21_4_9_14_15_20:RT:=(.l 21 [8,25] (rt21_4_9_14_15_20_21))
abbrev rt21_4_9_14_15_21:RT:=(.l 20 [8,25] (rt21_4_9_14_15_20_21))
abbrev rt21_4_9_14_15:RT:=(.alt (.l 20 [8,25] (rt21_4_9_14_15_20)) (.l 21 [8,19,25] (rt21_4_9_14_15_21)))
abbrev rt21_4_9_14_21:RT:=(.l 15 [8,19,25] (rt21_4_9_14_15_21))
abbrev rt21_4_9_14:RT:=(.alt (.l 15 [8,19,25] (rt21_4_9_14_15)) (.l 21 [8,19,25] (rt21_4_9_14_21)))
abbrev rt21_4_9_15_21:RT:=(.l 14 [8,19,25] (rt21_4_9_14_15_21))
abbrev rt21_4_9_15:RT:=(.alt (.l 14 [8,19,25] (rt21_4_9_14_15)) (.l 21 [8,13,19,25] (rt21_4_9_15_21)))
abbrev rt21_4_9_21:RT:=(.alt (.l 14 [8,19,25] (rt21_4_9_14_21)) (.l 15 [8,13,19,25] (rt21_4_9_15_21)))
abbrev rt21_4_9:RT:=(.alt (.l 14 [8,19,25] (rt21_4_9_14)) (.alt (.l 15 [8,13,19,25] (rt21_4_9_15)) (.l 21 [8,13,19,25] (rt21_4_9_21))))
abbrev rt21_4_15_21:RT:=(.l 9 [8,13,19,25] (rt21_4_9_15_21))
abbrev rt21_4_15:RT:=(.alt (.l 9 [8,13,19,25] (rt21_4_9_15)) (.l 21 [8,13,19,25] (rt21_4_15_21)))
abbrev rt21_4_21:RT:=(.alt (.l 9 [8,13,19,25] (rt21_4_9_21)) (.l 15 [8,13,19,25] (rt21_4_15_21)))
abbrev rt21_4:RT:=(.alt (.l 9 [8,13,19,25] (rt21_4_9)) (.alt (.l 15 [8,13,19,25] (rt21_4_15)) (.l 21 [8,13,19,25] (rt21_4_21))))
abbrev rt21_9_15_21:RT:=(.l 4 [8,13,19,25] (rt21_4_9_15_21))
abbrev rt21_9_15:RT:=(.alt (.l 4 [8,13,19,25] (rt21_4_9_15)) (.l 21 [3,8,13,19,25] (rt21_9_15_21)))
abbrev rt21_9_21:RT:=(.alt (.l 4 [8,13,19,25] (rt21_4_9_21)) (.l 15 [3,8,13,19,25] (rt21_9_15_21)))
abbrev rt21_9:RT:=(.alt (.l 4 [8,13,19,25] (rt21_4_9)) (.alt (.l 15 [3,8,13,19,25] (rt21_9_15)) (.l 21 [3,8,13,19,25] (rt21_9_21))))
abbrev rt21_15_21:RT:=(.alt (.l 4 [8,13,19,25] (rt21_4_15_21)) (.l 9 [3,8,13,19,25] (rt21_9_15_21)))
abbrev rt21_15:RT:=(.alt (.l 4 [8,13,19,25] (rt21_4_15)) (.alt (.l 9 [3,8,13,19,25] (rt21_9_15)) (.l 21 [3,8,13,19,25] (rt21_15_21))))
abbrev rt21_21:RT:=(.alt (.l 4 [8,13,19,25] (rt21_4_21)) (.alt (.l 9 [3,8,13,19,25] (rt21_9_21)) (.l 15 [3,8,13,19,25] (rt21_15_21))))
abbrev rt21_:RT:=(.alt (.l 4 [8,13,19,25] (rt21_4)) (.alt (.l 9 [3,8,13,19,25] (rt21_9)) (.alt (.l 15 [3,8,13,19,25] (rt21_15)) (.l 21 [3,8,13,19,25] (rt21_21)))))
theorem rcopy_spec (pa:Option Addr) (pc b:Nat) (x:HS) (hx:SInv x) (L:List KA) (hR:HRel L x) (hn:x.v.ck.n≤3000000000000):Spec Tryz.prog 21 [.pointer (some ⟨b,0,none⟩)] [rhR pa pc b x L] (fun (r:Nat)=>.pointer (some ⟨r,0,none⟩)) (fun r=>True) (fun r=>[rhR pa pc b x L,rhR pa pc r x L]):=by
 refine kS (n:=34) Tryz.func21 J J J ?_
 intro Γ w0
 simp only [argE,Ca,Na,Zd,Nat.reduceAdd]
 refine qL (qC (.q 0 (.done)) Kr ?_)
 refine qR J J J J (qS (qQ (qL (qL (qC (.q 0 (.q 1 (.done))) Kr ?_)))))
 refine qK J J J J (cM J J J J υ'33 ?_)
 refine kF 4 J (v':=.bool false) J ?_
 refine qS (qQ (kN J ?_))
 refine qH (qQ (qL ?_))
 have hva:=hx.v.ck.sh.va
 have hvl:=hx.len
 have hRn:=hR.n
 have hmf:(x.vars.map fsF).length=x.vars.length:=List.length_map _
 have hmg:(x.vars.map rcF).length=x.vars.length:=List.length_map _
 refine rh_open (ra:=pa) (rc:=pc) (b:=b) (x:=x) (L:=L) Tk fun vb sa sn sc Aa Ac Fa Fc Ga Gc=>?_
 refine kM J (.q 0 (.q 1 (.q 2 (.q 3 (.q 5 (.q 6 (.q 7 (.q 8 (.q 10 (.q 11 (.q 12 (.q 13 (.q 16 (.q 17 (.q 18 (.q 19 (.q 22 (.q 23 (.q 24 (.q 25 (rt21_))))))))))))))))))))) Kr ?_
 refine qK J J J J (qZ J J J J (qG (k:=0) J J J J υ'75 J ζ'70 J ?_))
 refine qP (j:=0) J J J J α'70 Tk Az (by rfl) ?_
 refine qK J J J J (qZ J J J J (qG (k:=1) J J J J υ'75 J ζ'24 J ?_))
 refine kC J J J J α'24 ζ'24 Tk 1 (us:=[_,_,_,_,_]) Az J J ?_
 refine qK J J J J (qZ J J J J (qG (k:=6) J J J J υ'75 J ζ'73 J ?_))
 refine qP (j:=6) J J J J α'73 Tk Az (by rfl) ?_
 refine qK J J J J (qZ J J J J (qG (k:=7) J J J J υ'75 J ζ'62 J ?_))
 refine qP (j:=7) J J J J α'62 Tk Az (by rfl) ?_
 refine qK J J J J (qZ J J J J (qG (k:=8) J J J J υ'75 J ζ'62 J ?_))
 refine qP (j:=8) J J J J α'62 Tk Az (by rfl) ?_
 refine share rt21_4_9_14_15_20_21_26 (fun (x_:Nat × Nat × Option Addr × Nat × Nat × Option Addr × Nat × Nat × Option Addr × Nat)=>match x_ with | (vq,b14,ao19,cp19,b20,ao25,cp25,b26,ao31,cp31)=>[(2,.pointer none),(32,.agg #[.pointer (some ⟨vq,0,none⟩),.int .i64 x.v.ck.th,.int .i64 x.v.ck.va,.int .i64 x.v.ck.vo,.int .i64 x.v.ck.lk,.slice sa sn sc,.slice ao19 L.length cp19,.slice ao25 x.vars.length cp25,.slice ao31 x.vars.length cp31])]) (fun (x_:Nat × Nat × Option Addr × Nat × Nat × Option Addr × Nat × Nat × Option Addr × Nat)=>match x_ with | (vq,b14,ao19,cp19,b20,ao25,cp25,b26,ao31,cp31)=>[cells b 0 [.pointer (some ⟨vb,0,none⟩),.int .i64 x.v.ck.th,.int .i64 x.v.ck.va,.int .i64 x.v.ck.vo,.int .i64 x.v.ck.lk,.slice sa sn sc,.slice Aa L.length Ac,.slice Fa x.vars.length Fc,.slice Ga x.vars.length Gc],rvR pa pc vb x.v,own 5 encKA Aa Ac L,own 3 enc3 Fa Fc (x.vars.map fsF),own 3 enc3 Ga Gc (x.vars.map rcF),rvR pa pc vq x.v,own 5 encKA ao19 cp19 L,own 3 enc3 ao25 cp25 (x.vars.map fsF),own 3 enc3 ao31 cp31 (x.vars.map rcF)]++Γ) ?_ fun hs_4_9_14_15_20_21_26=>?_
 ·
  rintro ⟨vq,b14,ao19,cp19,b20,ao25,cp25,b26,ao31,cp31⟩
  try simp only [Ca,Na]
  refine sG J J J J (us:=[_,_,_,_,_,_,_,_,_]) J ?_
  intro b33
  refine qV (qR J J J J (qS (qQ (qJ (rh_fold (b:=b) x L (ra:=pa) (rc:=pc) (vb:=vb) (sa:=sa) (sn:=sn) (sc:=sc) (Aa:=Aa) (Ac:=Ac) (Fa:=Fa) (Fc:=Fc) (Ga:=Ga) (Gc:=Gc) Ts J J J J J (by first | rfl | simp) (by first | rfl | simp) (by first | rfl | simp) (by first | rfl | simp) (by first | rfl | simp) ?_)))))
  refine rh_fold (b:=b33) x L (ra:=pa) (rc:=pc) (vb:=vq) (sa:=sa) (sn:=sn) (sc:=sc) (Aa:=ao19) (Ac:=cp19) (Fa:=ao25) (Fc:=cp25) (Ga:=ao31) (Gc:=cp31) Ts J J J J J (by first | rfl | simp) (by first | rfl | simp) (by first | rfl | simp) (by first | rfl | simp) (by first | rfl | simp) ?_
  refine cR J J (b33) (by first | rfl | (first | rfl | (congr 1;done) | (congr 1 <;> first | rfl | omega | (simp;done) | (simp;omega)))) (by trivial) ?_
  exact Tf
 refine share rt21_4_9_14_15_20_21 (fun (x_:Nat × Nat × Option Addr × Nat × Nat × Option Addr × Nat × Nat)=>match x_ with | (vq,b14,ao19,cp19,b20,ao25,cp25,b26)=>[(2,.pointer none),(9,.pointer (some ⟨vq,0,none⟩)),(12,.pointer (some ⟨b,0+1,none⟩)),(13,.agg #[.int .i64 x.v.ck.th,.int .i64 x.v.ck.va,.int .i64 x.v.ck.vo,.int .i64 x.v.ck.lk,.slice sa sn sc]),(19,.slice ao19 L.length cp19),(25,.slice ao25 x.vars.length cp25),(26,.slice (some ⟨b26,0,none⟩) 0 0),(30,.slice Ga x.vars.length Gc)]) (fun (x_:Nat × Nat × Option Addr × Nat × Nat × Option Addr × Nat × Nat)=>match x_ with | (vq,b14,ao19,cp19,b20,ao25,cp25,b26)=>[cells b 0 [.pointer (some ⟨vb,0,none⟩),.int .i64 x.v.ck.th,.int .i64 x.v.ck.va,.int .i64 x.v.ck.vo,.int .i64 x.v.ck.lk,.slice sa sn sc,.slice Aa L.length Ac,.slice Fa x.vars.length Fc,.slice Ga x.vars.length Gc],rvR pa pc vb x.v,own 5 encKA Aa Ac L,own 3 enc3 Fa Fc (x.vars.map fsF),own 3 enc3 Ga Gc (x.vars.map rcF),rvR pa pc vq x.v,cells b26 0 [],own 5 encKA ao19 cp19 L,own 3 enc3 ao25 cp25 (x.vars.map fsF)]++Γ) ?_ fun hs_4_9_14_15_20_21=>?_
 ·
  rintro ⟨vq,b14,ao19,cp19,b20,ao25,cp25,b26⟩
  try simp only [Ca,Na]
  refine cP (A:=own 3 enc3 Ga Gc (x.vars.map rcF)) Tk ?_
  refine own_fc fun f_16a f_16b f_16c=>?_
  refine cP (A:=cells b26 0 []) Tk ?_
  refine cL (fun _ h=>own_mk (sz:=3) (enc:=enc3) (xs:=[]) (sp:=[]) (cap:=0) (Nat.le_refl _) J h) ?_
  refine cN (sz:=3) (enc:=enc3) (xs:=[]) J J J J J υ'62 τ'65 J J J (by decide) Tk Tk (by first | rfl | omega | (simp;done) | (simp;omega)) (ys:=(x.vars.map rcF)) (rC enc3_len (fun h=>(f_16b h).1) f_16c) (by rfl) (by first | rfl | omega) (enc3_len) (enc3_one) Om (by show _*24≤_;omega) ?_
  intro ao31 cp31
  try simp only [Na]
  refine kF 31 J (v':=.slice ao31 x.vars.length cp31) (by first | rfl | (congr 1;done) | (congr 1 <;> first | rfl | omega | (simp;done) | (simp;omega))) ?_
  refine kW J J (us:=[_,_,_,_,_]) J α'24 ζ'24 Tk 1 Az J J ?_
  refine qV (kB J J J J (vs:=[_,_,_,_,_,_,_,_,_]) (kQ υ'75 Tryz.zeroValue75 (ps:=[(0,1),(1,5),(6,1),(7,1),(8,1)]) ⟨rfl,ζ'70,rfl,ζ'24,rfl,ζ'73,rfl,ζ'62,rfl,ζ'62,trivial⟩ rfl) ?_)
  exact sP [2,32] (hs_4_9_14_15_20_21_26 ⟨vq,b14,ao19,cp19,b20,ao25,cp25,b26,ao31,cp31⟩) J Tf
 refine share rt21_4_9_14_15_20 (fun (x_:Nat × Nat × Option Addr × Nat × Nat × Option Addr × Nat)=>match x_ with | (vq,b14,ao19,cp19,b20,ao25,cp25)=>[(2,.pointer none),(9,.pointer (some ⟨vq,0,none⟩)),(12,.pointer (some ⟨b,0+1,none⟩)),(13,.agg #[.int .i64 x.v.ck.th,.int .i64 x.v.ck.va,.int .i64 x.v.ck.vo,.int .i64 x.v.ck.lk,.slice sa sn sc]),(19,.slice ao19 L.length cp19),(25,.slice ao25 x.vars.length cp25),(29,.pointer (some ⟨b,0+8,none⟩)),(30,.slice Ga x.vars.length Gc)]) (fun (x_:Nat × Nat × Option Addr × Nat × Nat × Option Addr × Nat)=>match x_ with | (vq,b14,ao19,cp19,b20,ao25,cp25)=>[cells b 0 [.pointer (some ⟨vb,0,none⟩),.int .i64 x.v.ck.th,.int .i64 x.v.ck.va,.int .i64 x.v.ck.vo,.int .i64 x.v.ck.lk,.slice sa sn sc,.slice Aa L.length Ac,.slice Fa x.vars.length Fc,.slice Ga x.vars.length Gc],rvR pa pc vb x.v,own 5 encKA Aa Ac L,own 3 enc3 Fa Fc (x.vars.map fsF),own 3 enc3 Ga Gc (x.vars.map rcF),rvR pa pc vq x.v,own 5 encKA ao19 cp19 L,own 3 enc3 ao25 cp25 (x.vars.map fsF)]++Γ) ?_ fun hs_4_9_14_15_20=>?_
 ·
  rintro ⟨vq,b14,ao19,cp19,b20,ao25,cp25⟩
  try simp only [Ca,Na]
  refine cG J J J J υ'62 ζ'65 ?_
  intro b26
  refine kW J J (us:=[_,_,_,_,_]) J α'24 ζ'24 Tk 1 Az J J ?_
  refine qM (q:=8) J J J α'62 Tk Az (by rfl) ?_
  refine qV ?_
  exact sP [2,9,12,13,19,25,26,30] (hs_4_9_14_15_20_21 ⟨vq,b14,ao19,cp19,b20,ao25,cp25,b26⟩) J Tf
 refine share rt21_4_9_14_15_21 (fun (x_:Nat × Nat × Option Addr × Nat × Nat × Nat)=>match x_ with | (vq,b14,ao19,cp19,b20,b26)=>[(2,.pointer none),(9,.pointer (some ⟨vq,0,none⟩)),(12,.pointer (some ⟨b,0+1,none⟩)),(13,.agg #[.int .i64 x.v.ck.th,.int .i64 x.v.ck.va,.int .i64 x.v.ck.vo,.int .i64 x.v.ck.lk,.slice sa sn sc]),(19,.slice ao19 L.length cp19),(20,.slice (some ⟨b20,0,none⟩) 0 0),(24,.slice Fa x.vars.length Fc),(26,.slice (some ⟨b26,0,none⟩) 0 0),(29,.pointer (some ⟨b,0+8,none⟩)),(30,.slice Ga x.vars.length Gc)]) (fun (x_:Nat × Nat × Option Addr × Nat × Nat × Nat)=>match x_ with | (vq,b14,ao19,cp19,b20,b26)=>[cells b 0 [.pointer (some ⟨vb,0,none⟩),.int .i64 x.v.ck.th,.int .i64 x.v.ck.va,.int .i64 x.v.ck.vo,.int .i64 x.v.ck.lk,.slice sa sn sc,.slice Aa L.length Ac,.slice Fa x.vars.length Fc,.slice Ga x.vars.length Gc],rvR pa pc vb x.v,own 5 encKA Aa Ac L,own 3 enc3 Fa Fc (x.vars.map fsF),own 3 enc3 Ga Gc (x.vars.map rcF),rvR pa pc vq x.v,cells b20 0 [],cells b26 0 [],own 5 encKA ao19 cp19 L]++Γ) ?_ fun hs_4_9_14_15_21=>?_
 ·
  rintro ⟨vq,b14,ao19,cp19,b20,b26⟩
  try simp only [Ca,Na]
  refine cP (A:=own 3 enc3 Fa Fc (x.vars.map fsF)) Tk ?_
  refine own_fc fun f_17a f_17b f_17c=>?_
  refine cP (A:=cells b20 0 []) Tk ?_
  refine cL (fun _ h=>own_mk (sz:=3) (enc:=enc3) (xs:=[]) (sp:=[]) (cap:=0) (Nat.le_refl _) J h) ?_
  refine cN (sz:=3) (enc:=enc3) (xs:=[]) J J J J J υ'62 τ'65 J J J (by decide) Tk Tk (by first | rfl | omega | (simp;done) | (simp;omega)) (ys:=(x.vars.map fsF)) (rC enc3_len (fun h=>(f_17b h).1) f_17c) (by rfl) (by first | rfl | omega) (enc3_len) (enc3_one) Om (by show _*24≤_;omega) ?_
  intro ao25 cp25
  try simp only [Na]
  refine kF 25 J (v':=.slice ao25 x.vars.length cp25) (by first | rfl | (congr 1;done) | (congr 1 <;> first | rfl | omega | (simp;done) | (simp;omega))) ?_
  refine kW J J (us:=[_,_,_,_,_]) J α'24 ζ'24 Tk 1 Az J J ?_
  refine qM (q:=8) J J J α'62 Tk Az (by rfl) ?_
  refine qV ?_
  exact sP [2,9,12,13,19,25,26,30] (hs_4_9_14_15_20_21 ⟨vq,b14,ao19,cp19,b20,ao25,cp25,b26⟩) J Tf
 refine share rt21_4_9_14_15 (fun (x_:Nat × Nat × Option Addr × Nat × Nat)=>match x_ with | (vq,b14,ao19,cp19,b20)=>[(2,.pointer none),(9,.pointer (some ⟨vq,0,none⟩)),(12,.pointer (some ⟨b,0+1,none⟩)),(13,.agg #[.int .i64 x.v.ck.th,.int .i64 x.v.ck.va,.int .i64 x.v.ck.vo,.int .i64 x.v.ck.lk,.slice sa sn sc]),(19,.slice ao19 L.length cp19),(20,.slice (some ⟨b20,0,none⟩) 0 0),(23,.pointer (some ⟨b,0+7,none⟩)),(24,.slice Fa x.vars.length Fc),(29,.pointer (some ⟨b,0+8,none⟩)),(30,.slice Ga x.vars.length Gc)]) (fun (x_:Nat × Nat × Option Addr × Nat × Nat)=>match x_ with | (vq,b14,ao19,cp19,b20)=>[cells b 0 [.pointer (some ⟨vb,0,none⟩),.int .i64 x.v.ck.th,.int .i64 x.v.ck.va,.int .i64 x.v.ck.vo,.int .i64 x.v.ck.lk,.slice sa sn sc,.slice Aa L.length Ac,.slice Fa x.vars.length Fc,.slice Ga x.vars.length Gc],rvR pa pc vb x.v,own 5 encKA Aa Ac L,own 3 enc3 Fa Fc (x.vars.map fsF),own 3 enc3 Ga Gc (x.vars.map rcF),rvR pa pc vq x.v,cells b20 0 [],own 5 encKA ao19 cp19 L]++Γ) ?_ fun hs_4_9_14_15=>?_
 ·
  rintro ⟨vq,b14,ao19,cp19,b20⟩
  try simp only [Ca,Na]
  refine rV ?_ ?_
  ·
   refine cP (A:=own 3 enc3 Fa Fc (x.vars.map fsF)) Tk ?_
   refine own_fc fun f_18a f_18b f_18c=>?_
   refine cP (A:=cells b20 0 []) Tk ?_
   refine cL (fun _ h=>own_mk (sz:=3) (enc:=enc3) (xs:=[]) (sp:=[]) (cap:=0) (Nat.le_refl _) J h) ?_
   refine cN (sz:=3) (enc:=enc3) (xs:=[]) J J J J J υ'62 τ'65 J J J (by decide) Tk Tk (by first | rfl | omega | (simp;done) | (simp;omega)) (ys:=(x.vars.map fsF)) (rC enc3_len (fun h=>(f_18b h).1) f_18c) (by rfl) (by first | rfl | omega) (enc3_len) (enc3_one) Om (by show _*24≤_;omega) ?_
   intro ao25 cp25
   try simp only [Na]
   refine kF 25 J (v':=.slice ao25 x.vars.length cp25) (by first | rfl | (congr 1;done) | (congr 1 <;> first | rfl | omega | (simp;done) | (simp;omega))) ?_
   refine kW J J (us:=[_,_,_,_,_]) J α'24 ζ'24 Tk 1 Az J J ?_
   refine qM (q:=8) J J J α'62 Tk Az (by rfl) ?_
   refine qV ?_
   exact sP [2,9,12,13,19,25,29,30] (hs_4_9_14_15_20 ⟨vq,b14,ao19,cp19,b20,ao25,cp25⟩) J Tf
  refine cG J J J J υ'62 ζ'65 ?_
  intro b26
  refine kW J J (us:=[_,_,_,_,_]) J α'24 ζ'24 Tk 1 Az J J ?_
  refine qM (q:=7) J J J α'62 Tk Az (by rfl) ?_
  refine qM (q:=8) J J J α'62 Tk Az (by rfl) ?_
  refine qV ?_
  exact sP [2,9,12,13,19,20,24,26,29,30] (hs_4_9_14_15_21 ⟨vq,b14,ao19,cp19,b20,b26⟩) J Tf
 refine share rt21_4_9_14_21 (fun (x_:Nat × Nat × Option Addr × Nat × Nat)=>match x_ with | (vq,b14,ao19,cp19,b26)=>[(2,.pointer none),(9,.pointer (some ⟨vq,0,none⟩)),(12,.pointer (some ⟨b,0+1,none⟩)),(13,.agg #[.int .i64 x.v.ck.th,.int .i64 x.v.ck.va,.int .i64 x.v.ck.vo,.int .i64 x.v.ck.lk,.slice sa sn sc]),(19,.slice ao19 L.length cp19),(23,.pointer (some ⟨b,0+7,none⟩)),(24,.slice Fa x.vars.length Fc),(26,.slice (some ⟨b26,0,none⟩) 0 0),(29,.pointer (some ⟨b,0+8,none⟩)),(30,.slice Ga x.vars.length Gc)]) (fun (x_:Nat × Nat × Option Addr × Nat × Nat)=>match x_ with | (vq,b14,ao19,cp19,b26)=>[cells b 0 [.pointer (some ⟨vb,0,none⟩),.int .i64 x.v.ck.th,.int .i64 x.v.ck.va,.int .i64 x.v.ck.vo,.int .i64 x.v.ck.lk,.slice sa sn sc,.slice Aa L.length Ac,.slice Fa x.vars.length Fc,.slice Ga x.vars.length Gc],rvR pa pc vb x.v,own 5 encKA Aa Ac L,own 3 enc3 Fa Fc (x.vars.map fsF),own 3 enc3 Ga Gc (x.vars.map rcF),rvR pa pc vq x.v,cells b26 0 [],own 5 encKA ao19 cp19 L]++Γ) ?_ fun hs_4_9_14_21=>?_
 ·
  rintro ⟨vq,b14,ao19,cp19,b26⟩
  try simp only [Ca,Na]
  refine cG J J J J υ'62 ζ'65 ?_
  intro b20
  refine kW J J (us:=[_,_,_,_,_]) J α'24 ζ'24 Tk 1 Az J J ?_
  refine qM (q:=7) J J J α'62 Tk Az (by rfl) ?_
  refine qM (q:=8) J J J α'62 Tk Az (by rfl) ?_
  refine qV ?_
  exact sP [2,9,12,13,19,20,24,26,29,30] (hs_4_9_14_15_21 ⟨vq,b14,ao19,cp19,b20,b26⟩) J Tf
 refine share rt21_4_9_15_21 (fun (x_:Nat × Nat × Nat × Nat)=>match x_ with | (vq,b14,b20,b26)=>[(2,.pointer none),(9,.pointer (some ⟨vq,0,none⟩)),(12,.pointer (some ⟨b,0+1,none⟩)),(13,.agg #[.int .i64 x.v.ck.th,.int .i64 x.v.ck.va,.int .i64 x.v.ck.vo,.int .i64 x.v.ck.lk,.slice sa sn sc]),(14,.slice (some ⟨b14,0,none⟩) 0 0),(18,.slice Aa L.length Ac),(20,.slice (some ⟨b20,0,none⟩) 0 0),(23,.pointer (some ⟨b,0+7,none⟩)),(24,.slice Fa x.vars.length Fc),(26,.slice (some ⟨b26,0,none⟩) 0 0),(29,.pointer (some ⟨b,0+8,none⟩)),(30,.slice Ga x.vars.length Gc)]) (fun (x_:Nat × Nat × Nat × Nat)=>match x_ with | (vq,b14,b20,b26)=>[cells b 0 [.pointer (some ⟨vb,0,none⟩),.int .i64 x.v.ck.th,.int .i64 x.v.ck.va,.int .i64 x.v.ck.vo,.int .i64 x.v.ck.lk,.slice sa sn sc,.slice Aa L.length Ac,.slice Fa x.vars.length Fc,.slice Ga x.vars.length Gc],rvR pa pc vb x.v,own 5 encKA Aa Ac L,own 3 enc3 Fa Fc (x.vars.map fsF),own 3 enc3 Ga Gc (x.vars.map rcF),rvR pa pc vq x.v,cells b14 0 [],cells b20 0 [],cells b26 0 []]++Γ) ?_ fun hs_4_9_15_21=>?_
 ·
  rintro ⟨vq,b14,b20,b26⟩
  try simp only [Ca,Na]
  refine cP (A:=own 5 encKA Aa Ac L) Tk ?_
  refine own_fc fun f_19a f_19b f_19c=>?_
  refine cP (A:=cells b14 0 []) Tk ?_
  refine cL (fun _ h=>own_mk (sz:=5) (enc:=encKA) (xs:=[]) (sp:=[]) (cap:=0) (Nat.le_refl _) J h) ?_
  refine cN (sz:=5) (enc:=encKA) (xs:=[]) J J J J J υ'73 τ'112 J J J (by decide) Tk Tk (by first | rfl | omega | (simp;done) | (simp;omega)) (ys:=L) (rC encKA_len (fun h=>(f_19b h).1) f_19c) (by rfl) (by first | rfl | omega) (encKA_len) (encKA_one) Om (by show _*40≤_;omega) ?_
  intro ao19 cp19
  try simp only [Na]
  refine kF 19 J (v':=.slice ao19 L.length cp19) (by first | rfl | (congr 1;done) | (congr 1 <;> first | rfl | omega | (simp;done) | (simp;omega))) ?_
  refine kW J J (us:=[_,_,_,_,_]) J α'24 ζ'24 Tk 1 Az J J ?_
  refine qM (q:=7) J J J α'62 Tk Az (by rfl) ?_
  refine qM (q:=8) J J J α'62 Tk Az (by rfl) ?_
  refine qV ?_
  exact sP [2,9,12,13,19,20,24,26,29,30] (hs_4_9_14_15_21 ⟨vq,b14,ao19,cp19,b20,b26⟩) J Tf
 refine share rt21_4_9_14 (fun (x_:Nat × Nat × Option Addr × Nat)=>match x_ with | (vq,b14,ao19,cp19)=>[(2,.pointer none),(9,.pointer (some ⟨vq,0,none⟩)),(12,.pointer (some ⟨b,0+1,none⟩)),(13,.agg #[.int .i64 x.v.ck.th,.int .i64 x.v.ck.va,.int .i64 x.v.ck.vo,.int .i64 x.v.ck.lk,.slice sa sn sc]),(19,.slice ao19 L.length cp19),(23,.pointer (some ⟨b,0+7,none⟩)),(24,.slice Fa x.vars.length Fc),(29,.pointer (some ⟨b,0+8,none⟩)),(30,.slice Ga x.vars.length Gc)]) (fun (x_:Nat × Nat × Option Addr × Nat)=>match x_ with | (vq,b14,ao19,cp19)=>[cells b 0 [.pointer (some ⟨vb,0,none⟩),.int .i64 x.v.ck.th,.int .i64 x.v.ck.va,.int .i64 x.v.ck.vo,.int .i64 x.v.ck.lk,.slice sa sn sc,.slice Aa L.length Ac,.slice Fa x.vars.length Fc,.slice Ga x.vars.length Gc],rvR pa pc vb x.v,own 5 encKA Aa Ac L,own 3 enc3 Fa Fc (x.vars.map fsF),own 3 enc3 Ga Gc (x.vars.map rcF),rvR pa pc vq x.v,own 5 encKA ao19 cp19 L]++Γ) ?_ fun hs_4_9_14=>?_
 ·
  rintro ⟨vq,b14,ao19,cp19⟩
  try simp only [Ca,Na]
  refine rV ?_ ?_
  ·
   refine cG J J J J υ'62 ζ'65 ?_
   intro b20
   refine kW J J (us:=[_,_,_,_,_]) J α'24 ζ'24 Tk 1 Az J J ?_
   refine qM (q:=7) J J J α'62 Tk Az (by rfl) ?_
   refine qM (q:=8) J J J α'62 Tk Az (by rfl) ?_
   refine qV ?_
   exact sP [2,9,12,13,19,20,23,24,29,30] (hs_4_9_14_15 ⟨vq,b14,ao19,cp19,b20⟩) J Tf
  refine cG J J J J υ'62 ζ'65 ?_
  intro b26
  refine kW J J (us:=[_,_,_,_,_]) J α'24 ζ'24 Tk 1 Az J J ?_
  refine qM (q:=7) J J J α'62 Tk Az (by rfl) ?_
  refine qM (q:=8) J J J α'62 Tk Az (by rfl) ?_
  refine qV ?_
  exact sP [2,9,12,13,19,23,24,26,29,30] (hs_4_9_14_21 ⟨vq,b14,ao19,cp19,b26⟩) J Tf
 refine share rt21_4_9_15 (fun (x_:Nat × Nat × Nat)=>match x_ with | (vq,b14,b20)=>[(2,.pointer none),(9,.pointer (some ⟨vq,0,none⟩)),(12,.pointer (some ⟨b,0+1,none⟩)),(13,.agg #[.int .i64 x.v.ck.th,.int .i64 x.v.ck.va,.int .i64 x.v.ck.vo,.int .i64 x.v.ck.lk,.slice sa sn sc]),(14,.slice (some ⟨b14,0,none⟩) 0 0),(17,.pointer (some ⟨b,0+6,none⟩)),(18,.slice Aa L.length Ac),(20,.slice (some ⟨b20,0,none⟩) 0 0),(23,.pointer (some ⟨b,0+7,none⟩)),(24,.slice Fa x.vars.length Fc),(29,.pointer (some ⟨b,0+8,none⟩)),(30,.slice Ga x.vars.length Gc)]) (fun (x_:Nat × Nat × Nat)=>match x_ with | (vq,b14,b20)=>[cells b 0 [.pointer (some ⟨vb,0,none⟩),.int .i64 x.v.ck.th,.int .i64 x.v.ck.va,.int .i64 x.v.ck.vo,.int .i64 x.v.ck.lk,.slice sa sn sc,.slice Aa L.length Ac,.slice Fa x.vars.length Fc,.slice Ga x.vars.length Gc],rvR pa pc vb x.v,own 5 encKA Aa Ac L,own 3 enc3 Fa Fc (x.vars.map fsF),own 3 enc3 Ga Gc (x.vars.map rcF),rvR pa pc vq x.v,cells b14 0 [],cells b20 0 []]++Γ) ?_ fun hs_4_9_15=>?_
 ·
  rintro ⟨vq,b14,b20⟩
  try simp only [Ca,Na]
  refine rV ?_ ?_
  ·
   refine cP (A:=own 5 encKA Aa Ac L) Tk ?_
   refine own_fc fun f_20a f_20b f_20c=>?_
   refine cP (A:=cells b14 0 []) Tk ?_
   refine cL (fun _ h=>own_mk (sz:=5) (enc:=encKA) (xs:=[]) (sp:=[]) (cap:=0) (Nat.le_refl _) J h) ?_
   refine cN (sz:=5) (enc:=encKA) (xs:=[]) J J J J J υ'73 τ'112 J J J (by decide) Tk Tk (by first | rfl | omega | (simp;done) | (simp;omega)) (ys:=L) (rC encKA_len (fun h=>(f_20b h).1) f_20c) (by rfl) (by first | rfl | omega) (encKA_len) (encKA_one) Om (by show _*40≤_;omega) ?_
   intro ao19 cp19
   try simp only [Na]
   refine kF 19 J (v':=.slice ao19 L.length cp19) (by first | rfl | (congr 1;done) | (congr 1 <;> first | rfl | omega | (simp;done) | (simp;omega))) ?_
   refine kW J J (us:=[_,_,_,_,_]) J α'24 ζ'24 Tk 1 Az J J ?_
   refine qM (q:=7) J J J α'62 Tk Az (by rfl) ?_
   refine qM (q:=8) J J J α'62 Tk Az (by rfl) ?_
   refine qV ?_
   exact sP [2,9,12,13,19,20,23,24,29,30] (hs_4_9_14_15 ⟨vq,b14,ao19,cp19,b20⟩) J Tf
  refine cG J J J J υ'62 ζ'65 ?_
  intro b26
  refine kW J J (us:=[_,_,_,_,_]) J α'24 ζ'24 Tk 1 Az J J ?_
  refine qM (q:=6) J J J α'73 Tk Az (by rfl) ?_
  refine qM (q:=7) J J J α'62 Tk Az (by rfl) ?_
  refine qM (q:=8) J J J α'62 Tk Az (by rfl) ?_
  refine qV ?_
  exact sP [2,9,12,13,14,18,20,23,24,26,29,30] (hs_4_9_15_21 ⟨vq,b14,b20,b26⟩) J Tf
 refine share rt21_4_9_21 (fun (x_:Nat × Nat × Nat)=>match x_ with | (vq,b14,b26)=>[(2,.pointer none),(9,.pointer (some ⟨vq,0,none⟩)),(12,.pointer (some ⟨b,0+1,none⟩)),(13,.agg #[.int .i64 x.v.ck.th,.int .i64 x.v.ck.va,.int .i64 x.v.ck.vo,.int .i64 x.v.ck.lk,.slice sa sn sc]),(14,.slice (some ⟨b14,0,none⟩) 0 0),(17,.pointer (some ⟨b,0+6,none⟩)),(18,.slice Aa L.length Ac),(23,.pointer (some ⟨b,0+7,none⟩)),(24,.slice Fa x.vars.length Fc),(26,.slice (some ⟨b26,0,none⟩) 0 0),(29,.pointer (some ⟨b,0+8,none⟩)),(30,.slice Ga x.vars.length Gc)]) (fun (x_:Nat × Nat × Nat)=>match x_ with | (vq,b14,b26)=>[cells b 0 [.pointer (some ⟨vb,0,none⟩),.int .i64 x.v.ck.th,.int .i64 x.v.ck.va,.int .i64 x.v.ck.vo,.int .i64 x.v.ck.lk,.slice sa sn sc,.slice Aa L.length Ac,.slice Fa x.vars.length Fc,.slice Ga x.vars.length Gc],rvR pa pc vb x.v,own 5 encKA Aa Ac L,own 3 enc3 Fa Fc (x.vars.map fsF),own 3 enc3 Ga Gc (x.vars.map rcF),rvR pa pc vq x.v,cells b14 0 [],cells b26 0 []]++Γ) ?_ fun hs_4_9_21=>?_
 ·
  rintro ⟨vq,b14,b26⟩
  try simp only [Ca,Na]
  refine rV ?_ ?_
  ·
   refine cP (A:=own 5 encKA Aa Ac L) Tk ?_
   refine own_fc fun f_21a f_21b f_21c=>?_
   refine cP (A:=cells b14 0 []) Tk ?_
   refine cL (fun _ h=>own_mk (sz:=5) (enc:=encKA) (xs:=[]) (sp:=[]) (cap:=0) (Nat.le_refl _) J h) ?_
   refine cN (sz:=5) (enc:=encKA) (xs:=[]) J J J J J υ'73 τ'112 J J J (by decide) Tk Tk (by first | rfl | omega | (simp;done) | (simp;omega)) (ys:=L) (rC encKA_len (fun h=>(f_21b h).1) f_21c) (by rfl) (by first | rfl | omega) (encKA_len) (encKA_one) Om (by show _*40≤_;omega) ?_
   intro ao19 cp19
   try simp only [Na]
   refine kF 19 J (v':=.slice ao19 L.length cp19) (by first | rfl | (congr 1;done) | (congr 1 <;> first | rfl | omega | (simp;done) | (simp;omega))) ?_
   refine kW J J (us:=[_,_,_,_,_]) J α'24 ζ'24 Tk 1 Az J J ?_
   refine qM (q:=7) J J J α'62 Tk Az (by rfl) ?_
   refine qM (q:=8) J J J α'62 Tk Az (by rfl) ?_
   refine qV ?_
   exact sP [2,9,12,13,19,23,24,26,29,30] (hs_4_9_14_21 ⟨vq,b14,ao19,cp19,b26⟩) J Tf
  refine cG J J J J υ'62 ζ'65 ?_
  intro b20
  refine kW J J (us:=[_,_,_,_,_]) J α'24 ζ'24 Tk 1 Az J J ?_
  refine qM (q:=6) J J J α'73 Tk Az (by rfl) ?_
  refine qM (q:=7) J J J α'62 Tk Az (by rfl) ?_
  refine qM (q:=8) J J J α'62 Tk Az (by rfl) ?_
  refine qV ?_
  exact sP [2,9,12,13,14,18,20,23,24,26,29,30] (hs_4_9_15_21 ⟨vq,b14,b20,b26⟩) J Tf
 refine share rt21_4_15_21 (fun (x_:Nat × Nat × Nat)=>match x_ with | (vq,b20,b26)=>[(2,.pointer none),(9,.pointer (some ⟨vq,0,none⟩)),(12,.pointer (some ⟨b,0+1,none⟩)),(13,.agg #[.int .i64 x.v.ck.th,.int .i64 x.v.ck.va,.int .i64 x.v.ck.vo,.int .i64 x.v.ck.lk,.slice sa sn sc]),(17,.pointer (some ⟨b,0+6,none⟩)),(18,.slice Aa L.length Ac),(20,.slice (some ⟨b20,0,none⟩) 0 0),(23,.pointer (some ⟨b,0+7,none⟩)),(24,.slice Fa x.vars.length Fc),(26,.slice (some ⟨b26,0,none⟩) 0 0),(29,.pointer (some ⟨b,0+8,none⟩)),(30,.slice Ga x.vars.length Gc)]) (fun (x_:Nat × Nat × Nat)=>match x_ with | (vq,b20,b26)=>[cells b 0 [.pointer (some ⟨vb,0,none⟩),.int .i64 x.v.ck.th,.int .i64 x.v.ck.va,.int .i64 x.v.ck.vo,.int .i64 x.v.ck.lk,.slice sa sn sc,.slice Aa L.length Ac,.slice Fa x.vars.length Fc,.slice Ga x.vars.length Gc],rvR pa pc vb x.v,own 5 encKA Aa Ac L,own 3 enc3 Fa Fc (x.vars.map fsF),own 3 enc3 Ga Gc (x.vars.map rcF),rvR pa pc vq x.v,cells b20 0 [],cells b26 0 []]++Γ) ?_ fun hs_4_15_21=>?_
 ·
  rintro ⟨vq,b20,b26⟩
  try simp only [Ca,Na]
  refine cG J J J J υ'73 ζ'112 ?_
  intro b14
  refine kW J J (us:=[_,_,_,_,_]) J α'24 ζ'24 Tk 1 Az J J ?_
  refine qM (q:=6) J J J α'73 Tk Az (by rfl) ?_
  refine qM (q:=7) J J J α'62 Tk Az (by rfl) ?_
  refine qM (q:=8) J J J α'62 Tk Az (by rfl) ?_
  refine qV ?_
  exact sP [2,9,12,13,14,18,20,23,24,26,29,30] (hs_4_9_15_21 ⟨vq,b14,b20,b26⟩) J Tf
 refine share rt21_9_15_21 (fun (x_:Nat × Nat × Nat)=>match x_ with | (b14,b20,b26)=>[(2,.pointer none),(8,.pointer (some ⟨vb,0,none⟩)),(12,.pointer (some ⟨b,0+1,none⟩)),(13,.agg #[.int .i64 x.v.ck.th,.int .i64 x.v.ck.va,.int .i64 x.v.ck.vo,.int .i64 x.v.ck.lk,.slice sa sn sc]),(14,.slice (some ⟨b14,0,none⟩) 0 0),(17,.pointer (some ⟨b,0+6,none⟩)),(18,.slice Aa L.length Ac),(20,.slice (some ⟨b20,0,none⟩) 0 0),(23,.pointer (some ⟨b,0+7,none⟩)),(24,.slice Fa x.vars.length Fc),(26,.slice (some ⟨b26,0,none⟩) 0 0),(29,.pointer (some ⟨b,0+8,none⟩)),(30,.slice Ga x.vars.length Gc)]) (fun (x_:Nat × Nat × Nat)=>match x_ with | (b14,b20,b26)=>[cells b 0 [.pointer (some ⟨vb,0,none⟩),.int .i64 x.v.ck.th,.int .i64 x.v.ck.va,.int .i64 x.v.ck.vo,.int .i64 x.v.ck.lk,.slice sa sn sc,.slice Aa L.length Ac,.slice Fa x.vars.length Fc,.slice Ga x.vars.length Gc],rvR pa pc vb x.v,own 5 encKA Aa Ac L,own 3 enc3 Fa Fc (x.vars.map fsF),own 3 enc3 Ga Gc (x.vars.map rcF),cells b14 0 [],cells b20 0 [],cells b26 0 []]++Γ) ?_ fun hs_9_15_21=>?_
 ·
  rintro ⟨b14,b20,b26⟩
  try simp only [Ca,Na]
  have sp_22:=Rv.vcopy_spec pa pc vb x.v hx.v Om
  refine qB J J J J J J κ'43 (sp_22) Ts ?_
  rintro vq -
  try simp only [Ca,Na]
  refine kW J J (us:=[_,_,_,_,_]) J α'24 ζ'24 Tk 1 Az J J ?_
  refine qM (q:=6) J J J α'73 Tk Az (by rfl) ?_
  refine qM (q:=7) J J J α'62 Tk Az (by rfl) ?_
  refine qM (q:=8) J J J α'62 Tk Az (by rfl) ?_
  refine qV ?_
  exact sP [2,9,12,13,14,18,20,23,24,26,29,30] (hs_4_9_15_21 ⟨vq,b14,b20,b26⟩) J Tf
 refine share rt21_4_9 (fun (x_:Nat × Nat)=>match x_ with | (vq,b14)=>[(2,.pointer none),(9,.pointer (some ⟨vq,0,none⟩)),(12,.pointer (some ⟨b,0+1,none⟩)),(13,.agg #[.int .i64 x.v.ck.th,.int .i64 x.v.ck.va,.int .i64 x.v.ck.vo,.int .i64 x.v.ck.lk,.slice sa sn sc]),(14,.slice (some ⟨b14,0,none⟩) 0 0),(17,.pointer (some ⟨b,0+6,none⟩)),(18,.slice Aa L.length Ac),(23,.pointer (some ⟨b,0+7,none⟩)),(24,.slice Fa x.vars.length Fc),(29,.pointer (some ⟨b,0+8,none⟩)),(30,.slice Ga x.vars.length Gc)]) (fun (x_:Nat × Nat)=>match x_ with | (vq,b14)=>[cells b 0 [.pointer (some ⟨vb,0,none⟩),.int .i64 x.v.ck.th,.int .i64 x.v.ck.va,.int .i64 x.v.ck.vo,.int .i64 x.v.ck.lk,.slice sa sn sc,.slice Aa L.length Ac,.slice Fa x.vars.length Fc,.slice Ga x.vars.length Gc],rvR pa pc vb x.v,own 5 encKA Aa Ac L,own 3 enc3 Fa Fc (x.vars.map fsF),own 3 enc3 Ga Gc (x.vars.map rcF),rvR pa pc vq x.v,cells b14 0 []]++Γ) ?_ fun hs_4_9=>?_
 ·
  rintro ⟨vq,b14⟩
  try simp only [Ca,Na]
  refine rV ?_ ?_
  ·
   refine cP (A:=own 5 encKA Aa Ac L) Tk ?_
   refine own_fc fun f_23a f_23b f_23c=>?_
   refine cP (A:=cells b14 0 []) Tk ?_
   refine cL (fun _ h=>own_mk (sz:=5) (enc:=encKA) (xs:=[]) (sp:=[]) (cap:=0) (Nat.le_refl _) J h) ?_
   refine cN (sz:=5) (enc:=encKA) (xs:=[]) J J J J J υ'73 τ'112 J J J (by decide) Tk Tk (by first | rfl | omega | (simp;done) | (simp;omega)) (ys:=L) (rC encKA_len (fun h=>(f_23b h).1) f_23c) (by rfl) (by first | rfl | omega) (encKA_len) (encKA_one) Om (by show _*40≤_;omega) ?_
   intro ao19 cp19
   try simp only [Na]
   refine kF 19 J (v':=.slice ao19 L.length cp19) (by first | rfl | (congr 1;done) | (congr 1 <;> first | rfl | omega | (simp;done) | (simp;omega))) ?_
   refine kW J J (us:=[_,_,_,_,_]) J α'24 ζ'24 Tk 1 Az J J ?_
   refine qM (q:=7) J J J α'62 Tk Az (by rfl) ?_
   refine qM (q:=8) J J J α'62 Tk Az (by rfl) ?_
   refine qV ?_
   exact sP [2,9,12,13,19,23,24,29,30] (hs_4_9_14 ⟨vq,b14,ao19,cp19⟩) J Tf
  refine rV ?_ ?_
  ·
   refine cG J J J J υ'62 ζ'65 ?_
   intro b20
   refine kW J J (us:=[_,_,_,_,_]) J α'24 ζ'24 Tk 1 Az J J ?_
   refine qM (q:=6) J J J α'73 Tk Az (by rfl) ?_
   refine qM (q:=7) J J J α'62 Tk Az (by rfl) ?_
   refine qM (q:=8) J J J α'62 Tk Az (by rfl) ?_
   refine qV ?_
   exact sP [2,9,12,13,14,17,18,20,23,24,29,30] (hs_4_9_15 ⟨vq,b14,b20⟩) J Tf
  refine cG J J J J υ'62 ζ'65 ?_
  intro b26
  refine kW J J (us:=[_,_,_,_,_]) J α'24 ζ'24 Tk 1 Az J J ?_
  refine qM (q:=6) J J J α'73 Tk Az (by rfl) ?_
  refine qM (q:=7) J J J α'62 Tk Az (by rfl) ?_
  refine qM (q:=8) J J J α'62 Tk Az (by rfl) ?_
  refine qV ?_
  exact sP [2,9,12,13,14,17,18,23,24,26,29,30] (hs_4_9_21 ⟨vq,b14,b26⟩) J Tf
 refine share rt21_4_15 (fun (x_:Nat × Nat)=>match x_ with | (vq,b20)=>[(2,.pointer none),(9,.pointer (some ⟨vq,0,none⟩)),(12,.pointer (some ⟨b,0+1,none⟩)),(13,.agg #[.int .i64 x.v.ck.th,.int .i64 x.v.ck.va,.int .i64 x.v.ck.vo,.int .i64 x.v.ck.lk,.slice sa sn sc]),(17,.pointer (some ⟨b,0+6,none⟩)),(18,.slice Aa L.length Ac),(20,.slice (some ⟨b20,0,none⟩) 0 0),(23,.pointer (some ⟨b,0+7,none⟩)),(24,.slice Fa x.vars.length Fc),(29,.pointer (some ⟨b,0+8,none⟩)),(30,.slice Ga x.vars.length Gc)]) (fun (x_:Nat × Nat)=>match x_ with | (vq,b20)=>[cells b 0 [.pointer (some ⟨vb,0,none⟩),.int .i64 x.v.ck.th,.int .i64 x.v.ck.va,.int .i64 x.v.ck.vo,.int .i64 x.v.ck.lk,.slice sa sn sc,.slice Aa L.length Ac,.slice Fa x.vars.length Fc,.slice Ga x.vars.length Gc],rvR pa pc vb x.v,own 5 encKA Aa Ac L,own 3 enc3 Fa Fc (x.vars.map fsF),own 3 enc3 Ga Gc (x.vars.map rcF),rvR pa pc vq x.v,cells b20 0 []]++Γ) ?_ fun hs_4_15=>?_
 ·
  rintro ⟨vq,b20⟩
  try simp only [Ca,Na]
  refine rV ?_ ?_
  ·
   refine cG J J J J υ'73 ζ'112 ?_
   intro b14
   refine kW J J (us:=[_,_,_,_,_]) J α'24 ζ'24 Tk 1 Az J J ?_
   refine qM (q:=6) J J J α'73 Tk Az (by rfl) ?_
   refine qM (q:=7) J J J α'62 Tk Az (by rfl) ?_
   refine qM (q:=8) J J J α'62 Tk Az (by rfl) ?_
   refine qV ?_
   exact sP [2,9,12,13,14,17,18,20,23,24,29,30] (hs_4_9_15 ⟨vq,b14,b20⟩) J Tf
  refine cG J J J J υ'62 ζ'65 ?_
  intro b26
  refine kW J J (us:=[_,_,_,_,_]) J α'24 ζ'24 Tk 1 Az J J ?_
  refine qM (q:=6) J J J α'73 Tk Az (by rfl) ?_
  refine qM (q:=7) J J J α'62 Tk Az (by rfl) ?_
  refine qM (q:=8) J J J α'62 Tk Az (by rfl) ?_
  refine qV ?_
  exact sP [2,9,12,13,17,18,20,23,24,26,29,30] (hs_4_15_21 ⟨vq,b20,b26⟩) J Tf
 refine share rt21_4_21 (fun (x_:Nat × Nat)=>match x_ with | (vq,b26)=>[(2,.pointer none),(9,.pointer (some ⟨vq,0,none⟩)),(12,.pointer (some ⟨b,0+1,none⟩)),(13,.agg #[.int .i64 x.v.ck.th,.int .i64 x.v.ck.va,.int .i64 x.v.ck.vo,.int .i64 x.v.ck.lk,.slice sa sn sc]),(17,.pointer (some ⟨b,0+6,none⟩)),(18,.slice Aa L.length Ac),(23,.pointer (some ⟨b,0+7,none⟩)),(24,.slice Fa x.vars.length Fc),(26,.slice (some ⟨b26,0,none⟩) 0 0),(29,.pointer (some ⟨b,0+8,none⟩)),(30,.slice Ga x.vars.length Gc)]) (fun (x_:Nat × Nat)=>match x_ with | (vq,b26)=>[cells b 0 [.pointer (some ⟨vb,0,none⟩),.int .i64 x.v.ck.th,.int .i64 x.v.ck.va,.int .i64 x.v.ck.vo,.int .i64 x.v.ck.lk,.slice sa sn sc,.slice Aa L.length Ac,.slice Fa x.vars.length Fc,.slice Ga x.vars.length Gc],rvR pa pc vb x.v,own 5 encKA Aa Ac L,own 3 enc3 Fa Fc (x.vars.map fsF),own 3 enc3 Ga Gc (x.vars.map rcF),rvR pa pc vq x.v,cells b26 0 []]++Γ) ?_ fun hs_4_21=>?_
 ·
  rintro ⟨vq,b26⟩
  try simp only [Ca,Na]
  refine rV ?_ ?_
  ·
   refine cG J J J J υ'73 ζ'112 ?_
   intro b14
   refine kW J J (us:=[_,_,_,_,_]) J α'24 ζ'24 Tk 1 Az J J ?_
   refine qM (q:=6) J J J α'73 Tk Az (by rfl) ?_
   refine qM (q:=7) J J J α'62 Tk Az (by rfl) ?_
   refine qM (q:=8) J J J α'62 Tk Az (by rfl) ?_
   refine qV ?_
   exact sP [2,9,12,13,14,17,18,23,24,26,29,30] (hs_4_9_21 ⟨vq,b14,b26⟩) J Tf
  refine cG J J J J υ'62 ζ'65 ?_
  intro b20
  refine kW J J (us:=[_,_,_,_,_]) J α'24 ζ'24 Tk 1 Az J J ?_
  refine qM (q:=6) J J J α'73 Tk Az (by rfl) ?_
  refine qM (q:=7) J J J α'62 Tk Az (by rfl) ?_
  refine qM (q:=8) J J J α'62 Tk Az (by rfl) ?_
  refine qV ?_
  exact sP [2,9,12,13,17,18,20,23,24,26,29,30] (hs_4_15_21 ⟨vq,b20,b26⟩) J Tf
 refine share rt21_9_15 (fun (x_:Nat × Nat)=>match x_ with | (b14,b20)=>[(2,.pointer none),(7,.pointer (some ⟨b,0+0,none⟩)),(8,.pointer (some ⟨vb,0,none⟩)),(12,.pointer (some ⟨b,0+1,none⟩)),(13,.agg #[.int .i64 x.v.ck.th,.int .i64 x.v.ck.va,.int .i64 x.v.ck.vo,.int .i64 x.v.ck.lk,.slice sa sn sc]),(14,.slice (some ⟨b14,0,none⟩) 0 0),(17,.pointer (some ⟨b,0+6,none⟩)),(18,.slice Aa L.length Ac),(20,.slice (some ⟨b20,0,none⟩) 0 0),(23,.pointer (some ⟨b,0+7,none⟩)),(24,.slice Fa x.vars.length Fc),(29,.pointer (some ⟨b,0+8,none⟩)),(30,.slice Ga x.vars.length Gc)]) (fun (x_:Nat × Nat)=>match x_ with | (b14,b20)=>[cells b 0 [.pointer (some ⟨vb,0,none⟩),.int .i64 x.v.ck.th,.int .i64 x.v.ck.va,.int .i64 x.v.ck.vo,.int .i64 x.v.ck.lk,.slice sa sn sc,.slice Aa L.length Ac,.slice Fa x.vars.length Fc,.slice Ga x.vars.length Gc],rvR pa pc vb x.v,own 5 encKA Aa Ac L,own 3 enc3 Fa Fc (x.vars.map fsF),own 3 enc3 Ga Gc (x.vars.map rcF),cells b14 0 [],cells b20 0 []]++Γ) ?_ fun hs_9_15=>?_
 ·
  rintro ⟨b14,b20⟩
  try simp only [Ca,Na]
  refine rV ?_ ?_
  ·
   have sp_24:=Rv.vcopy_spec pa pc vb x.v hx.v Om
   refine qB J J J J J J κ'43 (sp_24) Ts ?_
   rintro vq -
   try simp only [Ca,Na]
   refine kW J J (us:=[_,_,_,_,_]) J α'24 ζ'24 Tk 1 Az J J ?_
   refine qM (q:=6) J J J α'73 Tk Az (by rfl) ?_
   refine qM (q:=7) J J J α'62 Tk Az (by rfl) ?_
   refine qM (q:=8) J J J α'62 Tk Az (by rfl) ?_
   refine qV ?_
   exact sP [2,9,12,13,14,17,18,20,23,24,29,30] (hs_4_9_15 ⟨vq,b14,b20⟩) J Tf
  refine cG J J J J υ'62 ζ'65 ?_
  intro b26
  refine qM (q:=0) J J J α'70 Tk Az (by rfl) ?_
  refine kW J J (us:=[_,_,_,_,_]) J α'24 ζ'24 Tk 1 Az J J ?_
  refine qM (q:=6) J J J α'73 Tk Az (by rfl) ?_
  refine qM (q:=7) J J J α'62 Tk Az (by rfl) ?_
  refine qM (q:=8) J J J α'62 Tk Az (by rfl) ?_
  refine qV ?_
  exact sP [2,8,12,13,14,17,18,20,23,24,26,29,30] (hs_9_15_21 ⟨b14,b20,b26⟩) J Tf
 refine share rt21_9_21 (fun (x_:Nat × Nat)=>match x_ with | (b14,b26)=>[(2,.pointer none),(7,.pointer (some ⟨b,0+0,none⟩)),(8,.pointer (some ⟨vb,0,none⟩)),(12,.pointer (some ⟨b,0+1,none⟩)),(13,.agg #[.int .i64 x.v.ck.th,.int .i64 x.v.ck.va,.int .i64 x.v.ck.vo,.int .i64 x.v.ck.lk,.slice sa sn sc]),(14,.slice (some ⟨b14,0,none⟩) 0 0),(17,.pointer (some ⟨b,0+6,none⟩)),(18,.slice Aa L.length Ac),(23,.pointer (some ⟨b,0+7,none⟩)),(24,.slice Fa x.vars.length Fc),(26,.slice (some ⟨b26,0,none⟩) 0 0),(29,.pointer (some ⟨b,0+8,none⟩)),(30,.slice Ga x.vars.length Gc)]) (fun (x_:Nat × Nat)=>match x_ with | (b14,b26)=>[cells b 0 [.pointer (some ⟨vb,0,none⟩),.int .i64 x.v.ck.th,.int .i64 x.v.ck.va,.int .i64 x.v.ck.vo,.int .i64 x.v.ck.lk,.slice sa sn sc,.slice Aa L.length Ac,.slice Fa x.vars.length Fc,.slice Ga x.vars.length Gc],rvR pa pc vb x.v,own 5 encKA Aa Ac L,own 3 enc3 Fa Fc (x.vars.map fsF),own 3 enc3 Ga Gc (x.vars.map rcF),cells b14 0 [],cells b26 0 []]++Γ) ?_ fun hs_9_21=>?_
 ·
  rintro ⟨b14,b26⟩
  try simp only [Ca,Na]
  refine rV ?_ ?_
  ·
   have sp_25:=Rv.vcopy_spec pa pc vb x.v hx.v Om
   refine qB J J J J J J κ'43 (sp_25) Ts ?_
   rintro vq -
   try simp only [Ca,Na]
   refine kW J J (us:=[_,_,_,_,_]) J α'24 ζ'24 Tk 1 Az J J ?_
   refine qM (q:=6) J J J α'73 Tk Az (by rfl) ?_
   refine qM (q:=7) J J J α'62 Tk Az (by rfl) ?_
   refine qM (q:=8) J J J α'62 Tk Az (by rfl) ?_
   refine qV ?_
   exact sP [2,9,12,13,14,17,18,23,24,26,29,30] (hs_4_9_21 ⟨vq,b14,b26⟩) J Tf
  refine cG J J J J υ'62 ζ'65 ?_
  intro b20
  refine qM (q:=0) J J J α'70 Tk Az (by rfl) ?_
  refine kW J J (us:=[_,_,_,_,_]) J α'24 ζ'24 Tk 1 Az J J ?_
  refine qM (q:=6) J J J α'73 Tk Az (by rfl) ?_
  refine qM (q:=7) J J J α'62 Tk Az (by rfl) ?_
  refine qM (q:=8) J J J α'62 Tk Az (by rfl) ?_
  refine qV ?_
  exact sP [2,8,12,13,14,17,18,20,23,24,26,29,30] (hs_9_15_21 ⟨b14,b20,b26⟩) J Tf
 refine share rt21_15_21 (fun (x_:Nat × Nat)=>match x_ with | (b20,b26)=>[(2,.pointer none),(7,.pointer (some ⟨b,0+0,none⟩)),(8,.pointer (some ⟨vb,0,none⟩)),(12,.pointer (some ⟨b,0+1,none⟩)),(13,.agg #[.int .i64 x.v.ck.th,.int .i64 x.v.ck.va,.int .i64 x.v.ck.vo,.int .i64 x.v.ck.lk,.slice sa sn sc]),(17,.pointer (some ⟨b,0+6,none⟩)),(18,.slice Aa L.length Ac),(20,.slice (some ⟨b20,0,none⟩) 0 0),(23,.pointer (some ⟨b,0+7,none⟩)),(24,.slice Fa x.vars.length Fc),(26,.slice (some ⟨b26,0,none⟩) 0 0),(29,.pointer (some ⟨b,0+8,none⟩)),(30,.slice Ga x.vars.length Gc)]) (fun (x_:Nat × Nat)=>match x_ with | (b20,b26)=>[cells b 0 [.pointer (some ⟨vb,0,none⟩),.int .i64 x.v.ck.th,.int .i64 x.v.ck.va,.int .i64 x.v.ck.vo,.int .i64 x.v.ck.lk,.slice sa sn sc,.slice Aa L.length Ac,.slice Fa x.vars.length Fc,.slice Ga x.vars.length Gc],rvR pa pc vb x.v,own 5 encKA Aa Ac L,own 3 enc3 Fa Fc (x.vars.map fsF),own 3 enc3 Ga Gc (x.vars.map rcF),cells b20 0 [],cells b26 0 []]++Γ) ?_ fun hs_15_21=>?_
 ·
  rintro ⟨b20,b26⟩
  try simp only [Ca,Na]
  refine rV ?_ ?_
  ·
   have sp_26:=Rv.vcopy_spec pa pc vb x.v hx.v Om
   refine qB J J J J J J κ'43 (sp_26) Ts ?_
   rintro vq -
   try simp only [Ca,Na]
   refine kW J J (us:=[_,_,_,_,_]) J α'24 ζ'24 Tk 1 Az J J ?_
   refine qM (q:=6) J J J α'73 Tk Az (by rfl) ?_
   refine qM (q:=7) J J J α'62 Tk Az (by rfl) ?_
   refine qM (q:=8) J J J α'62 Tk Az (by rfl) ?_
   refine qV ?_
   exact sP [2,9,12,13,17,18,20,23,24,26,29,30] (hs_4_15_21 ⟨vq,b20,b26⟩) J Tf
  refine cG J J J J υ'73 ζ'112 ?_
  intro b14
  refine qM (q:=0) J J J α'70 Tk Az (by rfl) ?_
  refine kW J J (us:=[_,_,_,_,_]) J α'24 ζ'24 Tk 1 Az J J ?_
  refine qM (q:=6) J J J α'73 Tk Az (by rfl) ?_
  refine qM (q:=7) J J J α'62 Tk Az (by rfl) ?_
  refine qM (q:=8) J J J α'62 Tk Az (by rfl) ?_
  refine qV ?_
  exact sP [2,8,12,13,14,17,18,20,23,24,26,29,30] (hs_9_15_21 ⟨b14,b20,b26⟩) J Tf
 refine share rt21_4 (fun (vq:Nat)=>[(2,.pointer none),(9,.pointer (some ⟨vq,0,none⟩)),(12,.pointer (some ⟨b,0+1,none⟩)),(13,.agg #[.int .i64 x.v.ck.th,.int .i64 x.v.ck.va,.int .i64 x.v.ck.vo,.int .i64 x.v.ck.lk,.slice sa sn sc]),(17,.pointer (some ⟨b,0+6,none⟩)),(18,.slice Aa L.length Ac),(23,.pointer (some ⟨b,0+7,none⟩)),(24,.slice Fa x.vars.length Fc),(29,.pointer (some ⟨b,0+8,none⟩)),(30,.slice Ga x.vars.length Gc)]) (fun (vq:Nat)=>[cells b 0 [.pointer (some ⟨vb,0,none⟩),.int .i64 x.v.ck.th,.int .i64 x.v.ck.va,.int .i64 x.v.ck.vo,.int .i64 x.v.ck.lk,.slice sa sn sc,.slice Aa L.length Ac,.slice Fa x.vars.length Fc,.slice Ga x.vars.length Gc],rvR pa pc vb x.v,own 5 encKA Aa Ac L,own 3 enc3 Fa Fc (x.vars.map fsF),own 3 enc3 Ga Gc (x.vars.map rcF),rvR pa pc vq x.v]++Γ) ?_ fun hs_4=>?_
 ·
  rintro vq
  try simp only [Ca,Na]
  refine rV ?_ ?_
  ·
   refine cG J J J J υ'73 ζ'112 ?_
   intro b14
   refine kW J J (us:=[_,_,_,_,_]) J α'24 ζ'24 Tk 1 Az J J ?_
   refine qM (q:=6) J J J α'73 Tk Az (by rfl) ?_
   refine qM (q:=7) J J J α'62 Tk Az (by rfl) ?_
   refine qM (q:=8) J J J α'62 Tk Az (by rfl) ?_
   refine qV ?_
   exact sP [2,9,12,13,14,17,18,23,24,29,30] (hs_4_9 ⟨vq,b14⟩) J Tf
  refine rV ?_ ?_
  ·
   refine cG J J J J υ'62 ζ'65 ?_
   intro b20
   refine kW J J (us:=[_,_,_,_,_]) J α'24 ζ'24 Tk 1 Az J J ?_
   refine qM (q:=6) J J J α'73 Tk Az (by rfl) ?_
   refine qM (q:=7) J J J α'62 Tk Az (by rfl) ?_
   refine qM (q:=8) J J J α'62 Tk Az (by rfl) ?_
   refine qV ?_
   exact sP [2,9,12,13,17,18,20,23,24,29,30] (hs_4_15 ⟨vq,b20⟩) J Tf
  refine cG J J J J υ'62 ζ'65 ?_
  intro b26
  refine kW J J (us:=[_,_,_,_,_]) J α'24 ζ'24 Tk 1 Az J J ?_
  refine qM (q:=6) J J J α'73 Tk Az (by rfl) ?_
  refine qM (q:=7) J J J α'62 Tk Az (by rfl) ?_
  refine qM (q:=8) J J J α'62 Tk Az (by rfl) ?_
  refine qV ?_
  exact sP [2,9,12,13,17,18,23,24,26,29,30] (hs_4_21 ⟨vq,b26⟩) J Tf
 refine share rt21_9 (fun (b14:Nat)=>[(2,.pointer none),(7,.pointer (some ⟨b,0+0,none⟩)),(8,.pointer (some ⟨vb,0,none⟩)),(12,.pointer (some ⟨b,0+1,none⟩)),(13,.agg #[.int .i64 x.v.ck.th,.int .i64 x.v.ck.va,.int .i64 x.v.ck.vo,.int .i64 x.v.ck.lk,.slice sa sn sc]),(14,.slice (some ⟨b14,0,none⟩) 0 0),(17,.pointer (some ⟨b,0+6,none⟩)),(18,.slice Aa L.length Ac),(23,.pointer (some ⟨b,0+7,none⟩)),(24,.slice Fa x.vars.length Fc),(29,.pointer (some ⟨b,0+8,none⟩)),(30,.slice Ga x.vars.length Gc)]) (fun (b14:Nat)=>[cells b 0 [.pointer (some ⟨vb,0,none⟩),.int .i64 x.v.ck.th,.int .i64 x.v.ck.va,.int .i64 x.v.ck.vo,.int .i64 x.v.ck.lk,.slice sa sn sc,.slice Aa L.length Ac,.slice Fa x.vars.length Fc,.slice Ga x.vars.length Gc],rvR pa pc vb x.v,own 5 encKA Aa Ac L,own 3 enc3 Fa Fc (x.vars.map fsF),own 3 enc3 Ga Gc (x.vars.map rcF),cells b14 0 []]++Γ) ?_ fun hs_9=>?_
 ·
  rintro b14
  try simp only [Ca,Na]
  refine rV ?_ ?_
  ·
   have sp_27:=Rv.vcopy_spec pa pc vb x.v hx.v Om
   refine qB J J J J J J κ'43 (sp_27) Ts ?_
   rintro vq -
   try simp only [Ca,Na]
   refine kW J J (us:=[_,_,_,_,_]) J α'24 ζ'24 Tk 1 Az J J ?_
   refine qM (q:=6) J J J α'73 Tk Az (by rfl) ?_
   refine qM (q:=7) J J J α'62 Tk Az (by rfl) ?_
   refine qM (q:=8) J J J α'62 Tk Az (by rfl) ?_
   refine qV ?_
   exact sP [2,9,12,13,14,17,18,23,24,29,30] (hs_4_9 ⟨vq,b14⟩) J Tf
  refine rV ?_ ?_
  ·
   refine cG J J J J υ'62 ζ'65 ?_
   intro b20
   refine qM (q:=0) J J J α'70 Tk Az (by rfl) ?_
   refine kW J J (us:=[_,_,_,_,_]) J α'24 ζ'24 Tk 1 Az J J ?_
   refine qM (q:=6) J J J α'73 Tk Az (by rfl) ?_
   refine qM (q:=7) J J J α'62 Tk Az (by rfl) ?_
   refine qM (q:=8) J J J α'62 Tk Az (by rfl) ?_
   refine qV ?_
   exact sP [2,7,8,12,13,14,17,18,20,23,24,29,30] (hs_9_15 ⟨b14,b20⟩) J Tf
  refine cG J J J J υ'62 ζ'65 ?_
  intro b26
  refine qM (q:=0) J J J α'70 Tk Az (by rfl) ?_
  refine kW J J (us:=[_,_,_,_,_]) J α'24 ζ'24 Tk 1 Az J J ?_
  refine qM (q:=6) J J J α'73 Tk Az (by rfl) ?_
  refine qM (q:=7) J J J α'62 Tk Az (by rfl) ?_
  refine qM (q:=8) J J J α'62 Tk Az (by rfl) ?_
  refine qV ?_
  exact sP [2,7,8,12,13,14,17,18,23,24,26,29,30] (hs_9_21 ⟨b14,b26⟩) J Tf
 refine share rt21_15 (fun (b20:Nat)=>[(2,.pointer none),(7,.pointer (some ⟨b,0+0,none⟩)),(8,.pointer (some ⟨vb,0,none⟩)),(12,.pointer (some ⟨b,0+1,none⟩)),(13,.agg #[.int .i64 x.v.ck.th,.int .i64 x.v.ck.va,.int .i64 x.v.ck.vo,.int .i64 x.v.ck.lk,.slice sa sn sc]),(17,.pointer (some ⟨b,0+6,none⟩)),(18,.slice Aa L.length Ac),(20,.slice (some ⟨b20,0,none⟩) 0 0),(23,.pointer (some ⟨b,0+7,none⟩)),(24,.slice Fa x.vars.length Fc),(29,.pointer (some ⟨b,0+8,none⟩)),(30,.slice Ga x.vars.length Gc)]) (fun (b20:Nat)=>[cells b 0 [.pointer (some ⟨vb,0,none⟩),.int .i64 x.v.ck.th,.int .i64 x.v.ck.va,.int .i64 x.v.ck.vo,.int .i64 x.v.ck.lk,.slice sa sn sc,.slice Aa L.length Ac,.slice Fa x.vars.length Fc,.slice Ga x.vars.length Gc],rvR pa pc vb x.v,own 5 encKA Aa Ac L,own 3 enc3 Fa Fc (x.vars.map fsF),own 3 enc3 Ga Gc (x.vars.map rcF),cells b20 0 []]++Γ) ?_ fun hs_15=>?_
 ·
  rintro b20
  try simp only [Ca,Na]
  refine rV ?_ ?_
  ·
   have sp_28:=Rv.vcopy_spec pa pc vb x.v hx.v Om
   refine qB J J J J J J κ'43 (sp_28) Ts ?_
   rintro vq -
   try simp only [Ca,Na]
   refine kW J J (us:=[_,_,_,_,_]) J α'24 ζ'24 Tk 1 Az J J ?_
   refine qM (q:=6) J J J α'73 Tk Az (by rfl) ?_
   refine qM (q:=7) J J J α'62 Tk Az (by rfl) ?_
   refine qM (q:=8) J J J α'62 Tk Az (by rfl) ?_
   refine qV ?_
   exact sP [2,9,12,13,17,18,20,23,24,29,30] (hs_4_15 ⟨vq,b20⟩) J Tf
  refine rV ?_ ?_
  ·
   refine cG J J J J υ'73 ζ'112 ?_
   intro b14
   refine qM (q:=0) J J J α'70 Tk Az (by rfl) ?_
   refine kW J J (us:=[_,_,_,_,_]) J α'24 ζ'24 Tk 1 Az J J ?_
   refine qM (q:=6) J J J α'73 Tk Az (by rfl) ?_
   refine qM (q:=7) J J J α'62 Tk Az (by rfl) ?_
   refine qM (q:=8) J J J α'62 Tk Az (by rfl) ?_
   refine qV ?_
   exact sP [2,7,8,12,13,14,17,18,20,23,24,29,30] (hs_9_15 ⟨b14,b20⟩) J Tf
  refine cG J J J J υ'62 ζ'65 ?_
  intro b26
  refine qM (q:=0) J J J α'70 Tk Az (by rfl) ?_
  refine kW J J (us:=[_,_,_,_,_]) J α'24 ζ'24 Tk 1 Az J J ?_
  refine qM (q:=6) J J J α'73 Tk Az (by rfl) ?_
  refine qM (q:=7) J J J α'62 Tk Az (by rfl) ?_
  refine qM (q:=8) J J J α'62 Tk Az (by rfl) ?_
  refine qV ?_
  exact sP [2,7,8,12,13,17,18,20,23,24,26,29,30] (hs_15_21 ⟨b20,b26⟩) J Tf
 refine share rt21_21 (fun (b26:Nat)=>[(2,.pointer none),(7,.pointer (some ⟨b,0+0,none⟩)),(8,.pointer (some ⟨vb,0,none⟩)),(12,.pointer (some ⟨b,0+1,none⟩)),(13,.agg #[.int .i64 x.v.ck.th,.int .i64 x.v.ck.va,.int .i64 x.v.ck.vo,.int .i64 x.v.ck.lk,.slice sa sn sc]),(17,.pointer (some ⟨b,0+6,none⟩)),(18,.slice Aa L.length Ac),(23,.pointer (some ⟨b,0+7,none⟩)),(24,.slice Fa x.vars.length Fc),(26,.slice (some ⟨b26,0,none⟩) 0 0),(29,.pointer (some ⟨b,0+8,none⟩)),(30,.slice Ga x.vars.length Gc)]) (fun (b26:Nat)=>[cells b 0 [.pointer (some ⟨vb,0,none⟩),.int .i64 x.v.ck.th,.int .i64 x.v.ck.va,.int .i64 x.v.ck.vo,.int .i64 x.v.ck.lk,.slice sa sn sc,.slice Aa L.length Ac,.slice Fa x.vars.length Fc,.slice Ga x.vars.length Gc],rvR pa pc vb x.v,own 5 encKA Aa Ac L,own 3 enc3 Fa Fc (x.vars.map fsF),own 3 enc3 Ga Gc (x.vars.map rcF),cells b26 0 []]++Γ) ?_ fun hs_21=>?_
 ·
  rintro b26
  try simp only [Ca,Na]
  refine rV ?_ ?_
  ·
   have sp_29:=Rv.vcopy_spec pa pc vb x.v hx.v Om
   refine qB J J J J J J κ'43 (sp_29) Ts ?_
   rintro vq -
   try simp only [Ca,Na]
   refine kW J J (us:=[_,_,_,_,_]) J α'24 ζ'24 Tk 1 Az J J ?_
   refine qM (q:=6) J J J α'73 Tk Az (by rfl) ?_
   refine qM (q:=7) J J J α'62 Tk Az (by rfl) ?_
   refine qM (q:=8) J J J α'62 Tk Az (by rfl) ?_
   refine qV ?_
   exact sP [2,9,12,13,17,18,23,24,26,29,30] (hs_4_21 ⟨vq,b26⟩) J Tf
  refine rV ?_ ?_
  ·
   refine cG J J J J υ'73 ζ'112 ?_
   intro b14
   refine qM (q:=0) J J J α'70 Tk Az (by rfl) ?_
   refine kW J J (us:=[_,_,_,_,_]) J α'24 ζ'24 Tk 1 Az J J ?_
   refine qM (q:=6) J J J α'73 Tk Az (by rfl) ?_
   refine qM (q:=7) J J J α'62 Tk Az (by rfl) ?_
   refine qM (q:=8) J J J α'62 Tk Az (by rfl) ?_
   refine qV ?_
   exact sP [2,7,8,12,13,14,17,18,23,24,26,29,30] (hs_9_21 ⟨b14,b26⟩) J Tf
  refine cG J J J J υ'62 ζ'65 ?_
  intro b20
  refine qM (q:=0) J J J α'70 Tk Az (by rfl) ?_
  refine kW J J (us:=[_,_,_,_,_]) J α'24 ζ'24 Tk 1 Az J J ?_
  refine qM (q:=6) J J J α'73 Tk Az (by rfl) ?_
  refine qM (q:=7) J J J α'62 Tk Az (by rfl) ?_
  refine qM (q:=8) J J J α'62 Tk Az (by rfl) ?_
  refine qV ?_
  exact sP [2,7,8,12,13,17,18,20,23,24,26,29,30] (hs_15_21 ⟨b20,b26⟩) J Tf
 refine rV ?_ ?_
 ·
  have sp_30:=Rv.vcopy_spec pa pc vb x.v hx.v Om
  refine qB J J J J J J κ'43 (sp_30) Ts ?_
  rintro vq -
  try simp only [Ca,Na]
  refine kW J J (us:=[_,_,_,_,_]) J α'24 ζ'24 Tk 1 Az J J ?_
  refine qM (q:=6) J J J α'73 Tk Az (by rfl) ?_
  refine qM (q:=7) J J J α'62 Tk Az (by rfl) ?_
  refine qM (q:=8) J J J α'62 Tk Az (by rfl) ?_
  refine qV ?_
  exact sP [2,9,12,13,17,18,23,24,29,30] (hs_4 vq) J Tf
 refine rV ?_ ?_
 ·
  refine cG J J J J υ'73 ζ'112 ?_
  intro b14
  refine qM (q:=0) J J J α'70 Tk Az (by rfl) ?_
  refine kW J J (us:=[_,_,_,_,_]) J α'24 ζ'24 Tk 1 Az J J ?_
  refine qM (q:=6) J J J α'73 Tk Az (by rfl) ?_
  refine qM (q:=7) J J J α'62 Tk Az (by rfl) ?_
  refine qM (q:=8) J J J α'62 Tk Az (by rfl) ?_
  refine qV ?_
  exact sP [2,7,8,12,13,14,17,18,23,24,29,30] (hs_9 b14) J Tf
 refine rV ?_ ?_
 ·
  refine cG J J J J υ'62 ζ'65 ?_
  intro b20
  refine qM (q:=0) J J J α'70 Tk Az (by rfl) ?_
  refine kW J J (us:=[_,_,_,_,_]) J α'24 ζ'24 Tk 1 Az J J ?_
  refine qM (q:=6) J J J α'73 Tk Az (by rfl) ?_
  refine qM (q:=7) J J J α'62 Tk Az (by rfl) ?_
  refine qM (q:=8) J J J α'62 Tk Az (by rfl) ?_
  refine qV ?_
  exact sP [2,7,8,12,13,17,18,20,23,24,29,30] (hs_15 b20) J Tf
 refine cG J J J J υ'62 ζ'65 ?_
 intro b26
 refine qM (q:=0) J J J α'70 Tk Az (by rfl) ?_
 refine kW J J (us:=[_,_,_,_,_]) J α'24 ζ'24 Tk 1 Az J J ?_
 refine qM (q:=6) J J J α'73 Tk Az (by rfl) ?_
 refine qM (q:=7) J J J α'62 Tk Az (by rfl) ?_
 refine qM (q:=8) J J J α'62 Tk Az (by rfl) ?_
 refine qV ?_
 exact sP [2,7,8,12,13,17,18,23,24,26,29,30] (hs_21 b26) J Tf
end Go.Ab.Rh
set_option linter.unusedVariables false
set_option linter.unusedSimpArgs false
namespace Go.Ab.Mc
open Go Go.Proofs Go.Ab
theorem nodup_snoc {κ:Type} {S:List κ} {k:κ} (h:S.Nodup) (hk:k ∉ S):(S++[k]).Nodup:=List.nodup_append.2 ⟨h,by simp,fun a ha b hb=>by simp at hb;subst hb;intro e;exact hk (e ▸ ha)⟩
section
variable {κ ν τ:Type} [DecidableEq κ]
/-- A table, only where S is. -/
def rs {τ:Type} (S:List κ) (T:κ→Option τ):κ→Option τ:=fun k=>if k∈S then T k else none
/-- A table that is G where S is. -/
def ov {τ:Type} (S:List κ) (G F:κ→Option τ):κ→Option τ:=fun k=>if k∈S then G k else F k
theorem ov_nil (G F:κ→Option τ):ov [] G F=F:=by funext k;simp [ov]
theorem rs_nil (T:κ→Option τ):rs ([]:List κ) T=fun _=>none:=by funext k;simp [rs]
theorem ov_next {S:List κ} {G F:κ→Option τ} {k:κ} {v:Option τ}:upd (ov S G F) k v=ov (S++[k]) (upd G k v) F:=by
  funext q
  by_cases h:q=k
  · subst h;simp [ov,upd]
  · simp [ov,upd,h]
theorem rs_next {S:List κ} {G:κ→Option τ} {k:κ} {v:Option τ}:upd (rs S G) k v=rs (S++[k]) (upd G k v):=by
  funext q
  by_cases h:q=k
  · subst h;simp [rs,upd]
  · simp [rs,upd,h]
theorem ov_all {S:List κ} {G F:κ→Option τ} (h:∀ k v,F k=some v→k∈S):ov S G F=rs S G:=by
  funext k
  unfold ov rs
  split
  · rfl
  · rename_i hk
    cases hF:F k with
    | none=>rfl
    | some v=>exact absurd (h k v hF) hk
theorem rs_all {S:List κ} {F:κ→Option ν} {T:κ→Option τ} (h:∀ k v,F k=some v→k∈S) (hd:∀ k,(T k).isSome=(F k).isSome):rs S T=T:=by
  funext k
  unfold rs
  split
  · rfl
  · rename_i hk
    cases hT:T k with
    | none=>rfl
    | some v =>
      have:=hd k
      rw [hT] at this
      obtain ⟨u,hu⟩:=Option.isSome_iff_exists.1 this.symm
      exact absurd (h k u hu) hk
variable {res:ν→τ→HProp} {F G:κ→Option ν} {T:κ→Option τ} {S:List κ}
variable {w0:World} {ds:List Deferred} {n:Nat} {e:Env} {Γ Γ':List HProp} {X:Act→World→Prop}
theorem s_rest_takeF (k:κ) {v:ν} (tk:Take Γ (rest res F T S) Γ') (hk:k ∉ S) (hF:F k=some v) (k1:∀ t,T k=some t→Le (St w0 ds n e (res v t::rest res F T (k::S)::Γ')) X):Le (St w0 ds n e Γ) X:=fun a w s=>by
  cases hT:T k with
  | none =>
    obtain ⟨hv,-⟩:=rest_miss hk hT (tk _ s.heap)
    rw [hF] at hv;cases hv
  | some t =>
    obtain ⟨v',hv,s1⟩:=rest_take hk hT (tk _ s.heap)
    rw [hF] at hv;cases hv
    exact k1 t hT a w ⟨s.defers,s.size,s.env,s1,s.amb⟩
theorem s_rest_dom (tk:Take Γ (rest res F T []) Γ') (k1:(∀ k,(T k).isSome=(F k).isSome)→Le (St w0 ds n e (rest res F T []::Γ')) X):Le (St w0 ds n e Γ) X:=fun a w s=>by
  have s0:=tk _ s.heap
  refine k1 (fun k=>?_) a w ⟨s.defers,s.size,s.env,s0,s.amb⟩
  cases hT:T k with
  | none=>obtain ⟨hv,-⟩:=rest_miss (k:=k) (by simp) hT s0;rw [hv];rfl
  | some t=>obtain ⟨v,hv,-⟩:=rest_take (k:=k) (by simp) hT s0;rw [hv];rfl
theorem s_rest_next (k:κ) {v:ν} {t:τ} (tk:Takes Γ [res v t,rest res (rs S G) (rs S T) []] Γ') (hk:k ∉ S) (ht:T k=some t) (k1:Le (St w0 ds n e (rest res (rs (S++[k]) (upd G k (some v))) (rs (S++[k]) T) []::Γ')) X):Le (St w0 ds n e Γ) X:=cL (fun h s=>by
  obtain ⟨h1,l1,a1,s1⟩:=tk h s
  obtain ⟨-,s2⟩:=rest_miss (k:=k) (by simp) (by simp [rs,hk]) s1
  refine rest_put (k:=k) (by simp) ?_ (fun q hq _=>?_) ?_ (fun q hq _=>?_) ⟨h1,l1,a1,s2⟩
  · simp [rs,upd]
  · simp [rs,upd,hq]
  · simp [rs,ht]
  · simp [rs,hq]) k1
end
theorem rs_noF {κ τ:Type} [DecidableEq κ] (T:κ→Option τ):∀ k,rs ([]:List κ) T k=none:=fun k=>by simp [rs]
end Go.Ab.Mc
set_option linter.unusedVariables false
set_option linter.unusedSimpArgs false
set_option maxRecDepth 100000
namespace Go.Ab.Rh
open Go Go.Proofs Go.Ab Go.Ab.Fe Go.Ab.Vc Go.Ab.Dj Go.Ab.Rv Go.Ab.Hi
open Go.Ab.Mc (ov rs ov_nil rs_nil ov_next rs_next ov_all rs_all s_rest_takeF s_rest_dom s_rest_next rs_noF)
theorem mclone_spec (m:Nat) (F:Int→Option (Option Addr)):Spec Tryz.prog 114 [.map (some m)] [mapO ekZ evA m F] (fun (r:Nat)=>.map (some r)) (fun r=>True) (fun r=>[mapO ekZ evA r F,mapO ekZ evA m F]):=by
 refine kS (n:=9) Tryz.func114 J J J ?_
 intro Γ w0
 simp only [argE,Ca,Na,Zd,Nat.reduceAdd]
 refine qL (qC (.q 0 (.done)) Kr ?_)
 refine qR J J J J (qS (qQ (qL (qL (qC (.q 0 (.q 1 (.done))) Kr ?_)))))
 refine qK J J J J (q_eq_nilm J J J J υ'83 ?_)
 refine kF 4 J (v':=.bool false) J ?_
 refine qS (qQ (kN J ?_))
 refine qH (qQ (qL (qC (.q 0 (.q 1 ((.l 2 [] ((.l 3 [] (.q 4 (.done)))))))) Kr ?_)))
 refine qK J J J J (q_iface J J J J υ'83 ?_)
 refine l_mapClone (ek:=ekZ) (ev1:=evA) (F:=F) (m:=m) J J J J Tryz.func92 J J Kr Kr Tk ?_
 intro mq
 refine qV (l_assert J J J J υ'83 ?_)
 refine qV (qR J J J J (qS (qW [2] (e':=[(2,_)]) J ?_)))
 refine qQ (qJ (cR J J (mq) (by first | rfl | (first | rfl | (congr 1;done) | (congr 1 <;> first | rfl | omega | (simp;done) | (simp;omega)))) (by trivial) ?_))
 exact Tf
theorem mcloneh_spec (m:Nat) (F:Int × Int→Option (Option Addr × Int)):Spec Tryz.prog 91 [.map (some m)] [mapO ek2 evH m F] (fun (r:Nat)=>.map (some r)) (fun r=>True) (fun r=>[mapO ek2 evH r F,mapO ek2 evH m F]):=by
 refine kS (n:=9) Tryz.func91 J J J ?_
 intro Γ w0
 simp only [argE,Ca,Na,Zd,Nat.reduceAdd]
 refine qL (qC (.q 0 (.done)) Kr ?_)
 refine qR J J J J (qS (qQ (qL (qL (qC (.q 0 (.q 1 (.done))) Kr ?_)))))
 refine qK J J J J (q_eq_nilm J J J J υ'84 ?_)
 refine kF 4 J (v':=.bool false) J ?_
 refine qS (qQ (kN J ?_))
 refine qH (qQ (qL (qC (.q 0 (.q 1 ((.l 2 [] ((.l 3 [] (.q 4 (.done)))))))) Kr ?_)))
 refine qK J J J J (q_iface J J J J υ'84 ?_)
 refine l_mapClone (ek:=ek2) (ev1:=evH) (F:=F) (m:=m) J J J J Tryz.func92 J J Kr Kr Tk ?_
 intro mq
 refine qV (l_assert J J J J υ'84 ?_)
 refine qV (qR J J J J (qS (qW [2] (e':=[(2,_)]) J ?_)))
 refine qQ (qJ (cR J J (mq) (by first | rfl | (first | rfl | (congr 1;done) | (congr 1 <;> first | rfl | omega | (simp;done) | (simp;omega)))) (by trivial) ?_))
 exact Tf
theorem dcopies_spec (m:Nat) (F:Int→Option (Option Addr)) (T:Int→Option (List Int)) (hT:∀ k l,T k=some l→CV l):Spec Tryz.prog 90 [.map (some m)] [mapO ekZ evA m F,rest vecA F T []] (fun (r:Nat × (Int→Option (Option Addr)))=>.map (some r.1)) (fun r=>True) (fun r=>[mapO ekZ evA m F,rest vecA F T [],mapO ekZ evA r.1 r.2,rest vecA r.2 T []]):=by
 refine kS (n:=20) Tryz.func90 J J J ?_
 intro Γ w0
 simp only [argE,Ca,Na,Zd,Nat.reduceAdd]
 refine qL (qC (.q 0 (.done)) Kr ?_)
 refine qR J J J J (qS (qQ (qL (qC (.q 0 ((.l 1 [] (.q 2 (.done))))) Kr ?_))))
 refine qK J J J J ?_
 have sp_1:=mclone_spec m F
 refine qB J J J J J J Tryz.call114 (sp_1) Ts ?_
 rintro mq -
 try simp only [Ca,Na]
 refine qV (qR J J J J (qS (qQ (qL (qL (qC (.q 0 ((.l 1 [] (.done)))) Kr ?_))))))
 refine qK J J J J (l_range (ek:=ekZ) (ev1:=evA) (F:=F) (m:=m) J J J J υ'83 Tk ?_)
 intro rr N_rr
 refine qV (qS (qW [3,9] (e':=[(3,_),(9,_)]) J ?_))
 refine qQ (kV (s_rest_new (res:=vecA) (rs ([]:List Int) (noF:Int→Option (Option Addr))) (rs ([]:List Int) T) (rs_noF _) (rs_noF _) ?_))
 refine sS (α:=List Int × (Int→Option (Option Addr))) (fun (x_:List Int × (Int→Option (Option Addr)))=>match x_ with | (vis,G)=>vis.Nodup) (fun (x_:List Int × (Int→Option (Option Addr)))=>match x_ with | (vis,G)=>[]) (fun (x_:List Int × (Int→Option (Option Addr)))=>match x_ with | (vis,G)=>[rng ekZ evA rr m F vis N_rr,mapO ekZ evA mq (ov vis G F),rest vecA F T [],rest vecA (rs vis G) (rs vis T) []]) (fun (x_:List Int × (Int→Option (Option Addr)))=>match x_ with | (vis,G)=>N_rr - vis.length) [3,9] (er:=[(3,_),(9,_)]) J (([]:List Int),(noF:Int→Option (Option Addr))) ?_ (by exact trivial) (by (try dsimp only);rw [ov_nil];(repeat ((with_reducible apply Z2);focus (first | (with_reducible (repeat (first | exact Z0 | apply Z1));done) | (repeat (first | exact Z0 | apply Z1)))));exact Z3) ?_
 · exact List.nodup_nil
 rintro ⟨vis,G⟩ hnd
 try simp only [Ca,Na]
 refine qL (qC ((.l 0 [] (.q 1 (.done)))) Kr ?_)
 refine l_next (ek:=ekZ) (ev1:=evA) (F:=F) (m:=m) (vis:=vis) (N:=N_rr) J J J J (by assumption) Tk ?_ ?_
 ·
  intro hall hex
  refine qV (kX J J J J J (qS (qQ (qL (kN J ?_)))))
  refine cS (qY (qY (kK (qQ (qL (qC (.q 0 (.q 1 (.done))) Kr ?_))))))
  refine qK J J J J (qR J J J J (qS (qW [2] (e':=[(2,_)]) J ?_)))
  refine qQ (qJ (s_rest_dom (F:=F) (T:=T) Tk fun hdom=>?_))
  rw [rs_all hall hdom,ov_all hall]
  refine cR J J ((mq,rs vis G)) (by first | rfl | (first | rfl | (congr 1;done) | (congr 1 <;> first | rfl | omega | (simp;done) | (simp;omega)))) (by trivial) ?_
  exact Tf
 intro k_ v_ hkv hnk hltN
 refine qV (s_rest_takeF (F:=F) (T:=T) (S:=[]) k_ Tk (by simp) hkv fun l ht=>?_)
 refine s_vec Tk fun cb ca cc hcb=>?_
 subst hcb
 have hll:=(hT _ _ ht).len
 refine kX J J J J J (qS (qQ (qL (cC J ?_))))
 refine qH (qQ (kV (qL (qC (.q 0 (.q 1 (.q 2 (.q 3 (.q 4 (.done)))))) Kr ?_))))
 refine q_entry (ek:=ekZ) (ev1:=evA) (F:=F) (m:=m) (vis:=vis) (N:=N_rr) (k:=k_) (v:=(some ⟨cb,0,none⟩)) J J J J hkv Tk ?_
 refine kX J J J J J (kX J J J J J (kF 14 J (v':=.pointer (some ⟨cb,0,none⟩)) (by rfl) ?_))
 refine qR J J J J (qR J J J J (qS (qW [3,4,5,9] (e':=[(3,_),(4,_),(5,_),(9,_)]) J ?_)))
 refine qQ (qC (.q 0 (.q 1 (.q 2 ((.l 3 [] ((.l 4 [] (.done)))))))) Kr ?_)
 refine qK J J J J (qK J J J J (qK J J J J ?_))
 have sp_2:=Vc.copy_spec cb l ca l.length cc (by rfl) Om
 refine qB J J J J J J κ'65 (sp_2) Ts ?_
 rintro ⟨qb,qa,qc⟩ -
 try simp only [Ca,Na]
 refine qV (sX (ek:=ekZ) (ev1:=evA) (F:=(ov vis G F)) (m:=mq) (k:=k_) (v:=(some ⟨qb,0,none⟩:Option Addr)) (by first | exact .inl J | exact .inr J) J J J J υ'83 (cD υ'3) Tk ?_)
 refine qV (qS (qW [3,9] (e':=[(3,_),(9,_)]) J ?_))
 refine kG (qQ (s_vecF cb ca cc l Ts ?_))
 refine sQ (F:=F) (T:=T) (S:=[]) k_ F T Ts (by simp) hkv (fun _ _ _=>rfl) ht (fun _ _ _=>rfl) ?_
 refine s_vecF qb qa qc l Ts ?_
 refine s_rest_next (G:=G) (T:=T) (S:=vis) k_ Ts hnk ht ?_
 rw [ov_next]
 refine kZ (x:=(vis,G)) ((vis++[k_],upd G k_ (some (some ⟨qb,0,none⟩)))) ?_ ?_ ?_ ?_
 · try dsimp only
   exact nodup_snoc hnd hnk
 · show N_rr - (vis++[k_]).length < N_rr - vis.length;rw [List.length_append];simp;omega
 · exact ⟨rfl,rfl,trivial⟩
 · (try simp only [Ca,Na]);exact Tf
theorem dvcopy_spec (pa:Option Addr) (pc:Nat) (po:Option Addr) (poc b:Nat) (x:VS) (hx:VInv x):Spec Tryz.prog 40 [.pointer (some ⟨b,0,none⟩)] [vsR pa pc po poc b x] (fun (r:Nat)=>.pointer (some ⟨r,0,none⟩)) (fun r=>True) (fun r=>[vsR pa pc po poc b x,vsR pa pc po poc r x]):=by
 refine kS (n:=58) Tryz.func40 J J J ?_
 intro Γ w0
 simp only [argE,Ca,Na,Zd,Nat.reduceAdd]
 refine qL (qC (.q 0 (.done)) Kr ?_)
 refine qR J J J J (qS (qQ (qL (cP (A:=vsR pa pc po poc b x) Tk ?_))))
 refine vs_open fun cb m1 m2 m3 m4 F1 F2 F3 F4=>?_
 refine kM J (.q 0 (.q 1 (.q 2 (.q 3 (.q 5 (.q 6 (.q 7 (.q 8 (.q 9 (.q 10 (.q 11 (.q 12 (.q 14 (.q 15 (.q 16 (.q 17 (.q 19 (.q 20 (.q 21 (.q 22 (.q 24 (.q 25 (.q 26 (.q 27 ((.l 4 [8,12,17,22,27] ((.l 13 [8,17,22,27] ((.l 18 [8,22,27] ((.l 23 [8,27] ((.l 28 [8] (.q 29 ((.l 30 [] (.q 31 (.done))))))))))))))))))))))))))))))))))))))) Kr ?_
 refine qK J J J J (qZ J J J J (qG (k:=0) J J J J υ'86 J ζ'82 J ?_))
 refine qP (j:=0) J J J J α'82 Tk Az (by rfl) ?_
 refine qK J J J J (qZ J J J J (qG (k:=1) J J J J υ'86 J ζ'22 J ?_))
 refine qP (j:=1) J J J J α'22 Tk Az (by rfl) ?_
 refine qK J J J J (qZ J J J J (qG (k:=2) J J J J υ'86 J ζ'83 J ?_))
 refine qP (j:=2) J J J J α'83 Tk Az (by rfl) ?_
 refine qK J J J J (qZ J J J J (qG (k:=3) J J J J υ'86 J ζ'83 J ?_))
 refine qP (j:=3) J J J J α'83 Tk Az (by rfl) ?_
 refine qK J J J J (qZ J J J J (qG (k:=4) J J J J υ'86 J ζ'83 J ?_))
 refine qP (j:=4) J J J J α'83 Tk Az (by rfl) ?_
 refine qK J J J J (qZ J J J J (qG (k:=5) J J J J υ'86 J ζ'84 J ?_))
 refine qP (j:=5) J J J J α'84 Tk Az (by rfl) ?_
 have sp_1:=Fe.copy_spec pa pc cb x.ck hx.ck
 refine qB J J J J J J Tryz.call89 (sp_1) Ts ?_
 rintro cq -
 try simp only [Ca,Na]
 refine qM (q:=1) J J J α'22 Tk Az (by rfl) ?_
 refine qM (q:=2) J J J α'83 Tk Az (by rfl) ?_
 refine qM (q:=3) J J J α'83 Tk Az (by rfl) ?_
 refine qM (q:=4) J J J α'83 Tk Az (by rfl) ?_
 refine qM (q:=5) J J J α'84 Tk Az (by rfl) ?_
 refine qV ?_
 have sp_2:=dcopies_spec m1 F1 x.th hx.thc
 refine qB J J J J J J Tryz.call90 (sp_2) Ts ?_
 rintro ⟨n1,Gn1⟩ -
 try simp only [Ca,Na]
 refine qM (q:=1) J J J α'22 Tk Az (by rfl) ?_
 refine qM (q:=3) J J J α'83 Tk Az (by rfl) ?_
 refine qM (q:=4) J J J α'83 Tk Az (by rfl) ?_
 refine qM (q:=5) J J J α'84 Tk Az (by rfl) ?_
 refine qV ?_
 have sp_3:=dcopies_spec m2 F2 x.lk hx.lkc
 refine qB J J J J J J Tryz.call90 (sp_3) Ts ?_
 rintro ⟨n2,Gn2⟩ -
 try simp only [Ca,Na]
 refine qM (q:=1) J J J α'22 Tk Az (by rfl) ?_
 refine qM (q:=4) J J J α'83 Tk Az (by rfl) ?_
 refine qM (q:=5) J J J α'84 Tk Az (by rfl) ?_
 refine qV ?_
 have sp_4:=dcopies_spec m3 F3 x.vo hx.voc
 refine qB J J J J J J Tryz.call90 (sp_4) Ts ?_
 rintro ⟨n3,Gn3⟩ -
 try simp only [Ca,Na]
 refine qM (q:=1) J J J α'22 Tk Az (by rfl) ?_
 refine qM (q:=5) J J J α'84 Tk Az (by rfl) ?_
 refine qV ?_
 have sp_5:=mcloneh_spec m4 F4
 refine qB J J J J J J Tryz.call91 (sp_5) Ts ?_
 rintro n4 -
 try simp only [Ca,Na]
 refine qM (q:=1) J J J α'22 Tk Az (by rfl) ?_
 refine qV (kB J J J J (vs:=[_,_,_,_,_,_]) (kQ υ'86 Tryz.zeroValue86 (ps:=[(0,1),(1,1),(2,1),(3,1),(4,1),(5,1)]) ⟨rfl,ζ'82,rfl,ζ'22,rfl,ζ'83,rfl,ζ'83,rfl,ζ'83,rfl,ζ'84,trivial⟩ rfl) ?_)
 refine sG J J J J (us:=[_,_,_,_,_,_]) J ?_
 intro b36
 refine qV (qR J J J J (qS (qW [0,3] (e':=[(0,_),(3,_)]) J ?_)))
 refine qQ (qL (qL (qC (.q 0 (.q 1 (.q 2 (.q 3 ((.l 4 [] (.done))))))) Kr ?_)))
 refine qK J J J J (qZ J J J J (qG (k:=5) J J J J υ'86 J ζ'84 J ?_))
 refine qP (j:=5) J J J J α'84 Tk Az (by rfl) ?_
 refine l_range (ek:=ek2) (ev1:=evH) (F:=F4) (m:=m4) J J J J υ'84 Tk ?_
 intro rr N_rr
 refine qV (qS (qW [3,41] (e':=[(3,_),(41,_)]) J ?_))
 refine qQ (kV (s_rest_new (res:=heldA) (rs ([]:List (Int × Int)) (noF:Int × Int→Option (Option Addr × Int))) (rs ([]:List (Int × Int)) x.rd) (rs_noF _) (rs_noF _) ?_))
 refine sS (α:=List (Int × Int) × (Int × Int→Option (Option Addr × Int))) (fun (x_:List (Int × Int) × (Int × Int→Option (Option Addr × Int)))=>match x_ with | (vis,G)=>vis.Nodup) (fun (x_:List (Int × Int) × (Int × Int→Option (Option Addr × Int)))=>match x_ with | (vis,G)=>[]) (fun (x_:List (Int × Int) × (Int × Int→Option (Option Addr × Int)))=>match x_ with | (vis,G)=>[rng ek2 evH rr m4 F4 vis N_rr,mapO ek2 evH n4 (ov vis G F4),rest heldA F4 x.rd [],rest heldA (rs vis G) (rs vis x.rd) []]) (fun (x_:List (Int × Int) × (Int × Int→Option (Option Addr × Int)))=>match x_ with | (vis,G)=>N_rr - vis.length) [3,41] (er:=[(3,_),(41,_)]) J (([]:List (Int × Int)),(noF:Int × Int→Option (Option Addr × Int))) ?_ (by exact trivial) (by (try dsimp only);rw [ov_nil];(repeat ((with_reducible apply Z2);focus (first | (with_reducible (repeat (first | exact Z0 | apply Z1));done) | (repeat (first | exact Z0 | apply Z1)))));exact Z3) ?_
 · exact List.nodup_nil
 rintro ⟨vis,G⟩ hnd
 try simp only [Ca,Na]
 refine qL (qC ((.l 0 [] (.q 1 (.done)))) Kr ?_)
 refine l_next (ek:=ek2) (ev1:=evH) (F:=F4) (m:=m4) (vis:=vis) (N:=N_rr) J J J J (by assumption) Tk ?_ ?_
 ·
  intro hall hex
  refine qV (kX J J J J J (qS (qQ (qL (kN J ?_)))))
  refine cS (qY (qY (kK (qQ (qL (qC (.q 0 (.q 1 (.done))) Kr ?_))))))
  refine qK J J J J (qR J J J J (qS (qW [2] (e':=[(2,_)]) J ?_)))
  refine qQ (qJ (s_rest_dom (F:=F4) (T:=x.rd) Tk fun hdom=>?_))
  rw [rs_all hall hdom,ov_all hall]
  refine vs_fold (b:=b) x (pa:=pa) (pc:=pc) (po:=po) (poc:=poc) (cb:=cb) (m1:=m1) (m2:=m2) (m3:=m3) (m4:=m4) Ts (by rfl) (by rfl) ?_
  refine vs_fold (b:=b36) x (pa:=pa) (pc:=pc) (po:=po) (poc:=poc) (cb:=cq) (m1:=n1) (m2:=n2) (m3:=n3) (m4:=n4) Ts (by rfl) (by rfl) ?_
  refine cR J J (b36) (by first | rfl | (first | rfl | (congr 1;done) | (congr 1 <;> first | rfl | omega | (simp;done) | (simp;omega)))) (by trivial) ?_
  exact Tf
 intro k_ v_ hkv hnk hltN
 refine qV (s_rest_takeF (F:=F4) (T:=x.rd) (S:=[]) k_ Tk (by simp) hkv fun p ht=>?_)
 obtain ⟨l,z⟩:=p
 obtain ⟨va_,vz_⟩:=v_
 refine s_held Tk fun hvz=>?_
 simp only at hvz
 subst hvz
 refine s_vec Tk fun kb ka kc hkb=>?_
 simp only at hkb
 subst hkb
 try dsimp only
 have hll:=(hx.rdc _ _ ht).len
 simp only at hll
 refine kX J J J J J (qS (qQ (qL (cC J ?_))))
 refine qH (qQ (kV (qL (qC (.q 0 (.q 1 (.q 2 ((.l 3 [] ((.l 4 [] ((.l 5 [] ((.l 6 [] (.done)))))))))))) Kr ?_))))
 refine q_entry (ek:=ek2) (ev1:=evH) (F:=F4) (m:=m4) (vis:=vis) (N:=N_rr) (k:=k_) (v:=(some ⟨kb,0,none⟩,vz_)) J J J J hkv Tk ?_
 refine kX J J J J J (kX J J J J J (cY J J J ω'153 (zs:=[.int .i64 0,.int .i64 0]) J ?_))
 intro b4
 refine qV (cY J J J ω'155 (zs:=[.pointer none,.int .i64 0]) J ?_)
 intro b5
 refine qV (kR (j:=0) J J J J ζ'153 (us:=[_,_]) J J J Tk Az (by first | decide | (simp;done) | omega) ?_)
 simp only [setL,List.set]
 refine qV (kR (j:=0) J J J J ζ'155 (us:=[_,_]) J J J Tk Az (by first | decide | (simp;done) | omega) ?_)
 simp only [setL,List.set]
 refine qV (qS (qW [3,4,5,41] (e':=[(3,_),(4,_),(5,_),(41,_)]) J ?_))
 refine qQ (qL (qC (.q 0 (.q 1 ((.l 2 [] (.q 3 ((.l 4 [] (.done)))))))) Kr ?_))
 refine qG (k:=0) J J J J υ'155 J ζ'94 J ?_
 refine qP (j:=0) J J J J α'94 Tk Az (by rfl) ?_
 refine kF 48 J (v':=.pointer (some ⟨kb,0,none⟩)) (by rfl) ?_
 have sp_6:=Vc.copy_spec kb l ka l.length kc (by rfl) Om
 refine qB J J J J J J κ'65 (sp_6) Ts ?_
 rintro ⟨qb,qa,qc⟩ -
 try simp only [Ca,Na]
 refine qV (qG (k:=0) J J J J υ'155 J ζ'94 J ?_)
 refine kR (j:=0) J J J J ζ'94 (us:=[_]) J J J Tk Az (by first | decide | (simp;done) | omega) ?_
 simp only [setL,List.set]
 refine qV (qS (qW [3,4,5,41] (e':=[(3,_),(4,_),(5,_),(41,_)]) J ?_))
 refine qQ (kM J (.q 0 (.q 1 (.q 2 (.q 3 (.q 4 (.q 5 ((.l 6 [] (.done))))))))) Kr ?_)
 refine qK J J J J (qZ J J J J (qG (k:=5) J J J J υ'86 J ζ'84 J ?_))
 refine qP (j:=5) J J J J α'84 Tk Az (by rfl) ?_
 refine kC J J J J α'153 ζ'153 Tk 0 (us:=[_,_]) Az J J ?_
 refine kC J J J J Tryz.isAgg155 ζ'155 Tk 0 (us:=[_,_]) Az J J ?_
 refine sX (ek:=ek2) (ev1:=evH) (F:=(ov vis G F4)) (m:=n4) (k:=(k_.1,k_.2)) (v:=((some ⟨qb,0,none⟩:Option Addr),vz_)) (by first | exact .inl J | exact .inr J) J J J J υ'84 (sH υ'153 J J J J υ'3 υ'3 α'3 α'3 Kr) Tk ?_
 refine qV (qS (qW [3,41] (e':=[(3,_),(41,_)]) J ?_))
 refine kG (qQ (s_vecF kb ka kc l Ts ?_))
 refine s_heldF (some ⟨kb,0,none⟩,vz_) (l,vz_) Tk J ?_
 refine sQ (F:=F4) (T:=x.rd) (S:=[]) k_ F4 x.rd Ts (by simp) hkv (fun _ _ _=>rfl) ht (fun _ _ _=>rfl) ?_
 refine s_vecF qb qa qc l Ts ?_
 refine s_heldF (some ⟨qb,0,none⟩,vz_) (l,vz_) Tk J ?_
 refine s_rest_next (G:=G) (T:=x.rd) (S:=vis) k_ Ts hnk ht ?_
 rw [show ((k_.1,k_.2):Int × Int)=k_ from rfl,ov_next]
 refine kZ (x:=(vis,G)) ((vis++[k_],upd G k_ (some (some ⟨qb,0,none⟩,vz_)))) ?_ ?_ ?_ ?_
 · try dsimp only
   exact nodup_snoc hnd hnk
 · show N_rr - (vis++[k_]).length < N_rr - vis.length;rw [List.length_append];simp;omega
 · exact ⟨rfl,rfl,trivial⟩
 · (try simp only [Ca,Na]);exact Tf
theorem at_spec (b vb m vc:Nat) (va:Option Addr) (v1 v3:Value) (V:List Tld) (hm:V.length=m) (i:Nat) (v:Tld) (hv:V[i]?=some v):Spec Tryz.prog 95 [.pointer (some ⟨b,0,none⟩),.int .i64 ((i:Nat):Int)] [cells b 0 [.pointer (some ⟨vb,0,none⟩),v1,.slice va m vc,v3],own 11 encD va vc V] (fun (r:Nat × Nat)=>.pointer (some ⟨r.1,r.2+i*11,none⟩)) (fun r=>va=some ⟨r.1,r.2,none⟩) (fun r=>[cells b 0 [.pointer (some ⟨vb,0,none⟩),v1,.slice va m vc,v3],own 11 encD va vc V]):=by
 refine kS (n:=27) Tryz.func95 J J J ?_
 intro Γ w0
 simp only [argE,Ca,Na,Zd,Nat.reduceAdd]
 have hil:=(List.getElem?_eq_some_iff.1 hv).1
 refine qL (qC (.q 0 (.done)) Kr ?_)
 refine qR J J J J (qS (qQ (qL (qL (qC (.q 0 ((.l 1 [] (.q 2 (.q 3 (.q 4 (.q 5 (.q 6 (.q 7 (.q 8 (.q 9 (.q 10 (.q 11 (.q 12 (.q 13 (.q 14 (.q 15 (.done)))))))))))))))))) Kr ?_)))))
 refine qK J J J J ?_
 have sp_1:=Hi.there_spec b vb v1 (.slice va m vc) v3
 refine qB J J J J J J κ'23 (sp_1) Ts ?_
 rintro ⟨⟩ -
 try simp only [Ca,Na]
 refine qV (rK J J J J ?_)
 refine kF 7 J (v':=.bool false) J ?_
 refine qK J J J J (qK J J J J (qD J J J J J (sK _ _ _ _) ?_))
 refine kD J J J J J (qK J J J J ?_)
 refine cV 12 J (fun g_2=>by exfalso;omega) (fun g_2=>?_)
 refine qK J J J J (qK J J J J (qZ J J J J (qG (k:=2) J J J J υ'48 J ζ'45 J ?_)))
 refine qP (j:=2) J J J J α'45 Tk Az (by rfl) ?_
 refine sR J J J J υ'45 ?_
 refine qD J J J J J (b_geq _ _ _ _) ?_
 refine kD J J J J J (qS (qW [0,1,20] (e':=[(0,_),(1,_),(20,_)]) J ?_))
 refine qQ ?_
 refine qF J (fun hg=>by exfalso;first | omega | (simp at hg;omega)) (fun hg=>?_)
 refine qH (qQ (qL (qC (.q 0 (.q 1 (.q 2 (.q 3 (.q 4 (.q 5 (.q 6 (.done)))))))) Kr ?_)))
 refine qK J J J J (qZ J J J J (qG (k:=2) J J J J υ'48 J ζ'45 J ?_))
 refine qP (j:=2) J J J J α'45 Tk Az (by rfl) ?_
 refine qK J J J J (cK (sz:=10) (k:=i) (enc:=encD) (xs:=V) J J J J J υ'45 ζ'90 hv (by first | rfl | omega) Om Tk ?_)
 intro ib26 io26 ha26 hl26 hc26
 refine qR J J J J (qS (qW [4] (e':=[(4,_)]) J ?_))
 refine qQ (qJ (cR J J ((ib26,io26)) (by first | rfl | (first | rfl | (congr 1;done) | (congr 1 <;> first | rfl | omega | (simp;done) | (simp;omega)))) (by exact ha26) ?_))
 exact Tf
theorem atno_spec (b vb m vc:Nat) (va:Option Addr) (v1 v3:Value) (V:List Tld) (hm:V.length=m) (z:Int) (hz:z < 0∨(m:Int)≤z):Spec Tryz.prog 95 [.pointer (some ⟨b,0,none⟩),.int .i64 z] [cells b 0 [.pointer (some ⟨vb,0,none⟩),v1,.slice va m vc,v3],own 11 encD va vc V] (fun (_:Unit)=>.pointer none) (fun _=>True) (fun _=>[cells b 0 [.pointer (some ⟨vb,0,none⟩),v1,.slice va m vc,v3],own 11 encD va vc V]):=by
 refine kS (n:=27) Tryz.func95 J J J ?_
 intro Γ w0
 simp only [argE,Ca,Na,Zd,Nat.reduceAdd]
 refine qL (qC (.q 0 (.done)) Kr ?_)
 refine qR J J J J (qS (qQ (qL (qL (qC (.q 0 ((.l 1 [] (.q 2 (.q 3 (.q 4 (.q 5 (.q 6 (.q 7 (.q 8 (.q 9 (.q 10 (.q 11 (.q 12 (.q 13 (.q 14 (.q 15 (.done)))))))))))))))))) Kr ?_)))))
 refine qK J J J J ?_
 have sp_1:=Hi.there_spec b vb v1 (.slice va m vc) v3
 refine qB J J J J J J κ'23 (sp_1) Ts ?_
 rintro ⟨⟩ -
 try simp only [Ca,Na]
 refine qV (rK J J J J ?_)
 refine kF 7 J (v':=.bool false) J ?_
 refine qK J J J J (qK J J J J (qD J J J J J (sK _ _ _ _) ?_))
 refine kD J J J J J (qK J J J J ?_)
 refine cV 12 J (fun hz1=>?_) (fun hz1=>?_)
 ·
  refine qX J J J J (qX J J J J (qX J J J J (qX J J J J (qX J J J J (qX J J J J (qX J J J J (kL J J J J J (qS ?_))))))))
  refine qW [0,1,20] (e':=[(0,_),(1,_),(20,_)]) J ?_
  refine qQ (cC J ?_)
  refine qL (qC (.q 0 (.done)) Kr ?_)
  refine qR J J J J (qS (qQ (qJ (qN (cR J J (()) (by first | rfl | (first | rfl | (congr 1;done) | (congr 1 <;> first | rfl | omega | (simp;done) | (simp;omega)))) (by trivial) ?_)))))
  exact Tf
 refine qK J J J J (qK J J J J (qZ J J J J (qG (k:=2) J J J J υ'48 J ζ'45 J ?_)))
 refine qP (j:=2) J J J J α'45 Tk Az (by rfl) ?_
 refine sR J J J J υ'45 ?_
 refine qD J J J J J (b_geq _ _ _ _) ?_
 refine kD J J J J J (qS (qW [0,1,20] (e':=[(0,_),(1,_),(20,_)]) J ?_))
 refine qQ ?_
 refine qF J (fun hg=>?_) (fun hg=>by exfalso;omega)
 refine qL (qC (.q 0 (.done)) Kr ?_)
 refine qR J J J J (qS (qQ (qJ (qN (cR J J (()) (by first | rfl | (first | rfl | (congr 1;done) | (congr 1 <;> first | rfl | omega | (simp;done) | (simp;omega)))) (by trivial) ?_)))))
 exact Tf
theorem hpair_some (pa:Option Addr) (pc:Nat) (po:Option Addr) (poc b:Nat) (x:HS) (hx:SInv x) (i:Nat) (w:Tld) (hw:x.vars[i]?=some w):Spec Tryz.prog 47 [.pointer (some ⟨b,0,none⟩),.int .i64 ((i:Nat):Int)] [hsR pa pc po poc b x] (fun (_:Unit)=>.tuple #[.agg #[.int .i64 (wH x ((i:Nat):Int)).1.1,.int .i64 (wH x ((i:Nat):Int)).1.2.1,.int .i64 (wH x ((i:Nat):Int)).1.2.2],.bool (wH x ((i:Nat):Int)).2.2.1]) (fun _=>True) (fun _=>[hsR pa pc po poc b x]):=by
 refine kS (n:=21) Tryz.func47 J J J ?_
 intro Γ w0
 simp only [argE,Ca,Na,Zd,Nat.reduceAdd]
 refine qL (qC ((.l 0 [] (.q 1 (.done)))) Kr ?_)
 refine cY J J J ω'65 (zs:=[.int .i64 0,.int .i64 0,.int .i64 0]) J ?_
 intro b4
 refine qV (qR J J J J (qS (qQ (qL (cP (A:=hsR pa pc po poc b x) Tk ?_)))))
 refine hs_open fun vb mk va vc=>?_
 refine qC (.q 0 (.q 1 ((.l 2 [] (.q 3 (.done)))))) Kr ?_
 refine qK J J J J (qK J J J J ?_)
 have sp_1:=at_spec b vb x.vars.length vc va (.int .i64 x.v.ck.th) (.map (some mk)) x.vars (by rfl) i w hw
 refine qB J J J J J J κ'95 (sp_1) Ts ?_
 rintro ⟨ab,ao_⟩ haa
 try simp only [Ca,Na]
 refine qV (qR J J J J (qS (qW [4,6] (e':=[(4,_),(6,_)]) J ?_)))
 refine qQ (qL (qL (qC (.q 0 (.q 1 (.done))) Kr ?_)))
 refine qK J J J J (cM J J J J υ'142 ?_)
 refine kF 11 J (v':=.bool false) J ?_
 refine qS (qQ (kN J ?_))
 refine qH (qQ (qL (kM J (.q 0 (.q 1 (.q 2 (.q 3 (.q 4 (.q 5 (.q 6 (.q 7 ((.l 8 [7] (.q 9 (.done)))))))))))) Kr ?_)))
 refine qK J J J J (qZ J J J J (qG (k:=0) J J J J υ'90 J ζ'65 J ?_))
 refine rS (j:=0) (k':=i) (us:=[_,_,_]) (enc:=encD) (off:=ao_) J J J J α'65 ζ'65 haa encD_len hw Tk (by first | rfl | exact (Ad _).symm | omega) (by rfl) J ?_
 refine qK J J J J (qZ J J J J (qG (k:=6) J J J J υ'90 J ζ'4 J ?_))
 refine cQ (v:=(.bool w.2.2.1)) (j:=6) (k':=i) (enc:=encD) (off:=ao_) J J J J α'4 haa encD_len hw Tk (by first | rfl | exact (Ad _).symm | omega) (by rfl) ?_
 refine kR (j:=0) J J J J ζ'65 (us:=[_,_,_]) J J J Tk Az (by first | decide | (simp;done) | omega) ?_
 simp only [setL,List.set]
 refine ag_load_O (v:=(.bool w.2.2.1)) (j:=6) (k':=i) (enc:=encD) (off:=ao_) J J J α'4 haa encD_len hw Tk (by first | rfl | exact (Ad _).symm | omega) (by rfl) ?_
 refine qV (qR J J J J (qS (qW [4,5] (e':=[(4,_),(5,_)]) J ?_)))
 refine qQ (qJ (hs_fold (b:=b) x (pa:=pa) (pc:=pc) (po:=po) (poc:=poc) (vb:=vb) (va:=va) (vc:=vc) (mk:=mk) (K:=x.keys) Ts (by rfl) (by rfl) (by rfl) ?_))
 refine retL (us:=[_,_]) J ⟨cH J α'65 ζ'65 Tk 0 J (us:=[_,_,_]) J J,sV rfl,trivial⟩ (()) (by rw [wH_nat hw];try rfl) (by trivial) ?_
 exact Tf
theorem hpair_none (pa:Option Addr) (pc:Nat) (po:Option Addr) (poc b:Nat) (x:HS) (hx:SInv x) (z:Int) (hz:z < 0∨(x.vars.length:Int)≤z):Spec Tryz.prog 47 [.pointer (some ⟨b,0,none⟩),.int .i64 z] [hsR pa pc po poc b x] (fun (_:Unit)=>.tuple #[.agg #[.int .i64 (wH x z).1.1,.int .i64 (wH x z).1.2.1,.int .i64 (wH x z).1.2.2],.bool (wH x z).2.2.1]) (fun _=>True) (fun _=>[hsR pa pc po poc b x]):=by
 refine kS (n:=21) Tryz.func47 J J J ?_
 intro Γ w0
 simp only [argE,Ca,Na,Zd,Nat.reduceAdd]
 refine qL (qC ((.l 0 [] (.q 1 (.done)))) Kr ?_)
 refine cY J J J ω'65 (zs:=[.int .i64 0,.int .i64 0,.int .i64 0]) J ?_
 intro b4
 refine qV (qR J J J J (qS (qQ (qL (cP (A:=hsR pa pc po poc b x) Tk ?_)))))
 refine hs_open fun vb mk va vc=>?_
 refine qC (.q 0 (.q 1 ((.l 2 [] (.q 3 (.done)))))) Kr ?_
 refine qK J J J J (qK J J J J ?_)
 have sp_1:=atno_spec b vb x.vars.length vc va (.int .i64 x.v.ck.th) (.map (some mk)) x.vars (by rfl) z hz
 refine qB J J J J J J κ'95 (sp_1) Ts ?_
 rintro ⟨⟩ -
 try simp only [Ca,Na]
 refine qV (qR J J J J (qS (qW [4,6] (e':=[(4,_),(6,_)]) J ?_)))
 refine qQ (qL (qL (qC (.q 0 (.q 1 (.done))) Kr ?_)))
 refine qK J J J J (cM J J J J υ'142 ?_)
 refine kF 11 J (v':=.bool true) J ?_
 refine qS (qQ (cC J ?_))
 refine qL (qC (.q 0 ((.l 1 [] (.q 2 (.done))))) Kr ?_)
 refine kB J J J J (vs:=[_,_,_]) (kQ υ'65 ω'65 (ps:=[(0,1),(1,1),(2,1)]) ⟨rfl,ζ'3,rfl,ζ'3,rfl,ζ'3,trivial⟩ rfl) ?_
 refine kR (j:=0) J J J J ζ'65 (us:=[_,_,_]) J J J Tk Az (by first | decide | (simp;done) | omega) ?_
 simp only [setL,List.set]
 refine qV (qR J J J J (qS (qW [4,5] (e':=[(4,_),(5,_)]) J ?_)))
 refine qQ (qJ (qN (hs_fold (b:=b) x (pa:=pa) (pc:=pc) (po:=po) (poc:=poc) (vb:=vb) (va:=va) (vc:=vc) (mk:=mk) (K:=x.keys) Ts (by rfl) (by rfl) (by rfl) ?_)))
 refine retL (us:=[_,_]) J ⟨cH J α'65 ζ'65 Tk 0 J (us:=[_,_,_]) J J,sV rfl,trivial⟩ (()) (by rw [wH_none hz];try rfl) (by trivial) ?_
 exact Tf
theorem hlatest_some (pa:Option Addr) (pc:Nat) (po:Option Addr) (poc b:Nat) (x:HS) (hx:SInv x) (i:Nat) (w:Tld) (hw:x.vars[i]?=some w):Spec Tryz.prog 49 [.pointer (some ⟨b,0,none⟩),.int .i64 ((i:Nat):Int)] [hsR pa pc po poc b x] (fun (_:Unit)=>.tuple #[.agg #[.int .i64 (wH x ((i:Nat):Int)).2.1.1,.int .i64 (wH x ((i:Nat):Int)).2.1.2.1,.int .i64 (wH x ((i:Nat):Int)).2.1.2.2],.bool (wH x ((i:Nat):Int)).2.2.1]) (fun _=>True) (fun _=>[hsR pa pc po poc b x]):=by
 refine kS (n:=21) Tryz.func49 J J J ?_
 intro Γ w0
 simp only [argE,Ca,Na,Zd,Nat.reduceAdd]
 refine qL (qC ((.l 0 [] (.q 1 (.done)))) Kr ?_)
 refine cY J J J ω'65 (zs:=[.int .i64 0,.int .i64 0,.int .i64 0]) J ?_
 intro b4
 refine qV (qR J J J J (qS (qQ (qL (cP (A:=hsR pa pc po poc b x) Tk ?_)))))
 refine hs_open fun vb mk va vc=>?_
 refine qC (.q 0 (.q 1 ((.l 2 [] (.q 3 (.done)))))) Kr ?_
 refine qK J J J J (qK J J J J ?_)
 have sp_1:=at_spec b vb x.vars.length vc va (.int .i64 x.v.ck.th) (.map (some mk)) x.vars (by rfl) i w hw
 refine qB J J J J J J κ'95 (sp_1) Ts ?_
 rintro ⟨ab,ao_⟩ haa
 try simp only [Ca,Na]
 refine qV (qR J J J J (qS (qW [4,6] (e':=[(4,_),(6,_)]) J ?_)))
 refine qQ (qL (qL (qC (.q 0 (.q 1 (.done))) Kr ?_)))
 refine qK J J J J (cM J J J J υ'142 ?_)
 refine kF 11 J (v':=.bool false) J ?_
 refine qS (qQ (kN J ?_))
 refine qH (qQ (qL (kM J (.q 0 (.q 1 (.q 2 (.q 3 (.q 4 (.q 5 (.q 6 (.q 7 ((.l 8 [7] (.q 9 (.done)))))))))))) Kr ?_)))
 refine qK J J J J (qZ J J J J (qG (k:=3) J J J J υ'90 J ζ'65 J ?_))
 refine rS (j:=3) (k':=i) (us:=[_,_,_]) (enc:=encD) (off:=ao_) J J J J α'65 ζ'65 haa encD_len hw Tk (by first | rfl | exact (Ad _).symm | omega) (by rfl) J ?_
 refine qK J J J J (qZ J J J J (qG (k:=6) J J J J υ'90 J ζ'4 J ?_))
 refine cQ (v:=(.bool w.2.2.1)) (j:=6) (k':=i) (enc:=encD) (off:=ao_) J J J J α'4 haa encD_len hw Tk (by first | rfl | exact (Ad _).symm | omega) (by rfl) ?_
 refine kR (j:=0) J J J J ζ'65 (us:=[_,_,_]) J J J Tk Az (by first | decide | (simp;done) | omega) ?_
 simp only [setL,List.set]
 refine ag_load_O (v:=(.bool w.2.2.1)) (j:=6) (k':=i) (enc:=encD) (off:=ao_) J J J α'4 haa encD_len hw Tk (by first | rfl | exact (Ad _).symm | omega) (by rfl) ?_
 refine qV (qR J J J J (qS (qW [4,5] (e':=[(4,_),(5,_)]) J ?_)))
 refine qQ (qJ (hs_fold (b:=b) x (pa:=pa) (pc:=pc) (po:=po) (poc:=poc) (vb:=vb) (va:=va) (vc:=vc) (mk:=mk) (K:=x.keys) Ts (by rfl) (by rfl) (by rfl) ?_))
 refine retL (us:=[_,_]) J ⟨cH J α'65 ζ'65 Tk 0 J (us:=[_,_,_]) J J,sV rfl,trivial⟩ (()) (by rw [wH_nat hw];try rfl) (by trivial) ?_
 exact Tf
theorem hlatest_none (pa:Option Addr) (pc:Nat) (po:Option Addr) (poc b:Nat) (x:HS) (hx:SInv x) (z:Int) (hz:z < 0∨(x.vars.length:Int)≤z):Spec Tryz.prog 49 [.pointer (some ⟨b,0,none⟩),.int .i64 z] [hsR pa pc po poc b x] (fun (_:Unit)=>.tuple #[.agg #[.int .i64 (wH x z).2.1.1,.int .i64 (wH x z).2.1.2.1,.int .i64 (wH x z).2.1.2.2],.bool (wH x z).2.2.1]) (fun _=>True) (fun _=>[hsR pa pc po poc b x]):=by
 refine kS (n:=21) Tryz.func49 J J J ?_
 intro Γ w0
 simp only [argE,Ca,Na,Zd,Nat.reduceAdd]
 refine qL (qC ((.l 0 [] (.q 1 (.done)))) Kr ?_)
 refine cY J J J ω'65 (zs:=[.int .i64 0,.int .i64 0,.int .i64 0]) J ?_
 intro b4
 refine qV (qR J J J J (qS (qQ (qL (cP (A:=hsR pa pc po poc b x) Tk ?_)))))
 refine hs_open fun vb mk va vc=>?_
 refine qC (.q 0 (.q 1 ((.l 2 [] (.q 3 (.done)))))) Kr ?_
 refine qK J J J J (qK J J J J ?_)
 have sp_1:=atno_spec b vb x.vars.length vc va (.int .i64 x.v.ck.th) (.map (some mk)) x.vars (by rfl) z hz
 refine qB J J J J J J κ'95 (sp_1) Ts ?_
 rintro ⟨⟩ -
 try simp only [Ca,Na]
 refine qV (qR J J J J (qS (qW [4,6] (e':=[(4,_),(6,_)]) J ?_)))
 refine qQ (qL (qL (qC (.q 0 (.q 1 (.done))) Kr ?_)))
 refine qK J J J J (cM J J J J υ'142 ?_)
 refine kF 11 J (v':=.bool true) J ?_
 refine qS (qQ (cC J ?_))
 refine qL (qC (.q 0 ((.l 1 [] (.q 2 (.done))))) Kr ?_)
 refine kB J J J J (vs:=[_,_,_]) (kQ υ'65 ω'65 (ps:=[(0,1),(1,1),(2,1)]) ⟨rfl,ζ'3,rfl,ζ'3,rfl,ζ'3,trivial⟩ rfl) ?_
 refine kR (j:=0) J J J J ζ'65 (us:=[_,_,_]) J J J Tk Az (by first | decide | (simp;done) | omega) ?_
 simp only [setL,List.set]
 refine qV (qR J J J J (qS (qW [4,5] (e':=[(4,_),(5,_)]) J ?_)))
 refine qQ (qJ (qN (hs_fold (b:=b) x (pa:=pa) (pc:=pc) (po:=po) (poc:=poc) (vb:=vb) (va:=va) (vc:=vc) (mk:=mk) (K:=x.keys) Ts (by rfl) (by rfl) (by rfl) ?_)))
 refine retL (us:=[_,_]) J ⟨cH J α'65 ζ'65 Tk 0 J (us:=[_,_,_]) J J,sV rfl,trivial⟩ (()) (by rw [wH_none hz];try rfl) (by trivial) ?_
 exact Tf
theorem tou_zero {x:HS} {L:List KA} (hR:HRel L x) {i:Nat} {w:Tld} (hw:x.vars[i]?=some w) (h0:w.2.2.2.1.1=0):w.2.2.2=((0,0,0),0):=by
  have h1:=hR.t i w hw
  show (w.2.2.2.1,w.2.2.2.2)=_
  rw [h1]
  unfold touI
  by_cases h:0≤lastO L (i:Int) L.length
  · exfalso
    have h2:=lastO_at h
    unfold touI at h1
    rw [if_pos h] at h1
    cases hq:L[(lastO L (i:Int) L.length).toNat]? with
    | none=>rw [hq] at h2;cases h2
    | some u =>
      rw [hq] at h1
      obtain ⟨-,-,k,-⟩:=hR.lo u (List.mem_of_getElem? hq)
      have h3:=congrArg (fun q:T3 × Int=>q.1.1) h1
      simp only [Option.map_some,Option.getD_some] at h3
      omega
  · rw [if_neg h]
theorem htou_some (pa:Option Addr) (pc:Nat) (po:Option Addr) (poc b:Nat) (x:HS) (hx:SInv x) (L:List KA) (hR:HRel L x) (i:Nat) (w:Tld) (hw:x.vars[i]?=some w):Spec Tryz.prog 54 [.pointer (some ⟨b,0,none⟩),.int .i64 ((i:Nat):Int)] [hsR pa pc po poc b x] (fun (_:Unit)=>.tuple #[.agg #[.int .i64 (wH x ((i:Nat):Int)).2.2.2.1.1,.int .i64 (wH x ((i:Nat):Int)).2.2.2.1.2.1,.int .i64 (wH x ((i:Nat):Int)).2.2.2.1.2.2],.int .i64 (wH x ((i:Nat):Int)).2.2.2.2,.bool (decide ((wH x ((i:Nat):Int)).2.2.2.1.1≠0))]) (fun _=>True) (fun _=>[hsR pa pc po poc b x]):=by
 refine kS (n:=30) Tryz.func54 J J J ?_
 intro Γ w0
 simp only [argE,Ca,Na,Zd,Nat.reduceAdd]
 refine qL (qC ((.l 0 [] (.q 1 (.q 2 (.done))))) Kr ?_)
 refine cY J J J ω'52 (zs:=[.int .i64 0,.int .i64 0,.int .i64 0]) J ?_
 intro b4
 refine qV (qR J J J J (qR J J J J (qS (qQ (qL (cP (A:=hsR pa pc po poc b x) Tk ?_))))))
 refine hs_open fun vb mk va vc=>?_
 refine qC (.q 0 (.q 1 ((.l 2 [] (.q 3 (.done)))))) Kr ?_
 refine qK J J J J (qK J J J J ?_)
 have sp_1:=at_spec b vb x.vars.length vc va (.int .i64 x.v.ck.th) (.map (some mk)) x.vars (by rfl) i w hw
 refine qB J J J J J J κ'95 (sp_1) Ts ?_
 rintro ⟨ab,ao_⟩ haa
 try simp only [Ca,Na]
 refine qV (qR J J J J (qS (qW [4,7] (e':=[(4,_),(7,_)]) J ?_)))
 refine qQ (qL (qL (qC (.q 0 (.q 1 (.q 2 (.q 3 (.q 4 (.q 5 (.q 6 (.q 7 (.q 8 (.q 9 (.done))))))))))) Kr ?_)))
 refine qK J J J J (cM J J J J υ'142 ?_)
 refine kF 12 J (v':=.bool false) J ?_
 refine qK J J J J (qK J J J J (qZ J J J J (qG (k:=7) J J J J υ'90 J ζ'52 J ?_)))
 refine qG (k:=0) J J J J υ'52 J ζ'50 J ?_
 refine cQ (v:=(.int .i64 w.2.2.2.1.1)) (j:=7) (k':=i) (enc:=encD) (off:=ao_) J J J J α'50 haa encD_len hw Tk (by first | rfl | exact (Ad _).symm | omega) (by rfl) ?_
 refine qD J J J J J (cZ _ _ _ _) ?_
 refine kD J J J J J (qS (qW [4,7,20] (e':=[(4,_),(7,_),(20,_)]) J ?_))
 refine qQ ?_
 refine qF J (fun hk0=>?_) (fun hk0=>?_)
 ·
  refine qL (qC (.q 0 ((.l 1 [] (.q 2 (.q 3 (.done)))))) Kr ?_)
  refine kB J J J J (vs:=[_,_,_]) (kQ υ'52 ω'52 (ps:=[(0,1),(1,1),(2,1)]) ⟨rfl,ζ'50,rfl,ζ'3,rfl,ζ'3,trivial⟩ rfl) ?_
  refine kR (j:=0) J J J J ζ'52 (us:=[_,_,_]) J J J Tk Az (by first | decide | (simp;done) | omega) ?_
  simp only [setL,List.set]
  refine qV (qR J J J J (qR J J J J (qS (qQ (qJ (qN (hs_fold (b:=b) x (pa:=pa) (pc:=pc) (po:=po) (poc:=poc) (vb:=vb) (va:=va) (vc:=vc) (mk:=mk) (K:=x.keys) Ts (by rfl) (by rfl) (by rfl) ?_)))))))
  refine retL (us:=[_,_,_]) J ⟨cH J α'52 ζ'52 Tk 0 J (us:=[_,_,_]) J J,sV rfl,sV rfl,trivial⟩ (()) (by rw [wH_nat hw,tou_zero hR hw hk0];rfl) (by trivial) ?_
  exact Tf
 refine qH (qQ (qL (kM J (.q 0 (.q 1 (.q 2 (.q 3 (.q 4 (.q 5 (.q 6 (.q 7 ((.l 8 [7] (.q 9 (.q 10 (.done))))))))))))) Kr ?_)))
 refine qK J J J J (qZ J J J J (qG (k:=7) J J J J υ'90 J ζ'52 J ?_))
 refine rS (j:=7) (k':=i) (us:=[_,_,_]) (enc:=encD) (off:=ao_) J J J J α'52 ζ'52 haa encD_len hw Tk (by first | rfl | exact (Ad _).symm | omega) (by rfl) J ?_
 refine qK J J J J (qZ J J J J (qG (k:=10) J J J J υ'90 J ζ'3 J ?_))
 refine cQ (v:=(.int .i64 w.2.2.2.2)) (j:=10) (k':=i) (enc:=encD) (off:=ao_) J J J J α'3 haa encD_len hw Tk (by first | rfl | exact (Ad _).symm | omega) (by rfl) ?_
 refine kR (j:=0) J J J J ζ'52 (us:=[_,_,_]) J J J Tk Az (by first | decide | (simp;done) | omega) ?_
 simp only [setL,List.set]
 refine ag_load_O (v:=(.int .i64 w.2.2.2.2)) (j:=10) (k':=i) (enc:=encD) (off:=ao_) J J J α'3 haa encD_len hw Tk (by first | rfl | exact (Ad _).symm | omega) (by rfl) ?_
 refine qV (qR J J J J (qR J J J J (qS (qW [4,5,6] (e':=[(4,_),(5,_),(6,_)]) J ?_))))
 refine qQ (qJ (hs_fold (b:=b) x (pa:=pa) (pc:=pc) (po:=po) (poc:=poc) (vb:=vb) (va:=va) (vc:=vc) (mk:=mk) (K:=x.keys) Ts (by rfl) (by rfl) (by rfl) ?_))
 refine retL (us:=[_,_,_]) J ⟨cH J α'52 ζ'52 Tk 0 J (us:=[_,_,_]) J J,sV rfl,sV rfl,trivial⟩ (()) (by rw [wH_nat hw,decide_eq_true hk0];try rfl) (by trivial) ?_
 exact Tf
theorem htou_none (pa:Option Addr) (pc:Nat) (po:Option Addr) (poc b:Nat) (x:HS) (hx:SInv x) (L:List KA) (hR:HRel L x) (z:Int) (hz:z < 0∨(x.vars.length:Int)≤z):Spec Tryz.prog 54 [.pointer (some ⟨b,0,none⟩),.int .i64 z] [hsR pa pc po poc b x] (fun (_:Unit)=>.tuple #[.agg #[.int .i64 (wH x z).2.2.2.1.1,.int .i64 (wH x z).2.2.2.1.2.1,.int .i64 (wH x z).2.2.2.1.2.2],.int .i64 (wH x z).2.2.2.2,.bool (decide ((wH x z).2.2.2.1.1≠0))]) (fun _=>True) (fun _=>[hsR pa pc po poc b x]):=by
 refine kS (n:=30) Tryz.func54 J J J ?_
 intro Γ w0
 simp only [argE,Ca,Na,Zd,Nat.reduceAdd]
 refine qL (qC ((.l 0 [] (.q 1 (.q 2 (.done))))) Kr ?_)
 refine cY J J J ω'52 (zs:=[.int .i64 0,.int .i64 0,.int .i64 0]) J ?_
 intro b4
 refine qV (qR J J J J (qR J J J J (qS (qQ (qL (cP (A:=hsR pa pc po poc b x) Tk ?_))))))
 refine hs_open fun vb mk va vc=>?_
 refine qC (.q 0 (.q 1 ((.l 2 [] (.q 3 (.done)))))) Kr ?_
 refine qK J J J J (qK J J J J ?_)
 have sp_1:=atno_spec b vb x.vars.length vc va (.int .i64 x.v.ck.th) (.map (some mk)) x.vars (by rfl) z hz
 refine qB J J J J J J κ'95 (sp_1) Ts ?_
 rintro ⟨⟩ -
 try simp only [Ca,Na]
 refine qV (qR J J J J (qS (qW [4,7] (e':=[(4,_),(7,_)]) J ?_)))
 refine qQ (qL (qL (qC (.q 0 (.q 1 (.q 2 (.q 3 (.q 4 (.q 5 (.q 6 (.q 7 (.q 8 (.q 9 (.done))))))))))) Kr ?_)))
 refine qK J J J J (cM J J J J υ'142 ?_)
 refine kF 12 J (v':=.bool true) J ?_
 refine qK J J J J (qX J J J J (qX J J J J (qX J J J J (qX J J J J (qX J J J J (qX J J J J (kL J J J J J (qS ?_))))))))
 refine qW [4,7,20] (e':=[(4,_),(7,_),(20,_)]) J ?_
 refine qQ (cC J ?_)
 refine qL (qC (.q 0 ((.l 1 [] (.q 2 (.q 3 (.done)))))) Kr ?_)
 refine kB J J J J (vs:=[_,_,_]) (kQ υ'52 ω'52 (ps:=[(0,1),(1,1),(2,1)]) ⟨rfl,ζ'50,rfl,ζ'3,rfl,ζ'3,trivial⟩ rfl) ?_
 refine kR (j:=0) J J J J ζ'52 (us:=[_,_,_]) J J J Tk Az (by first | decide | (simp;done) | omega) ?_
 simp only [setL,List.set]
 refine qV (qR J J J J (qR J J J J (qS (qQ (qJ (qN (hs_fold (b:=b) x (pa:=pa) (pc:=pc) (po:=po) (poc:=poc) (vb:=vb) (va:=va) (vc:=vc) (mk:=mk) (K:=x.keys) Ts (by rfl) (by rfl) (by rfl) ?_)))))))
 refine retL (us:=[_,_,_]) J ⟨cH J α'52 ζ'52 Tk 0 J (us:=[_,_,_]) J J,sV rfl,sV rfl,trivial⟩ (()) (by rw [wH_none hz];try rfl) (by trivial) ?_
 exact Tf
theorem hlast_some (pa:Option Addr) (pc:Nat) (po:Option Addr) (poc b:Nat) (x:HS) (hx:SInv x) (t:Int) (i:Nat) (w:Tld) (hw:x.vars[i]?=some w):Spec Tryz.prog 51 [.pointer (some ⟨b,0,none⟩),.int .i64 ((i:Nat):Int),.int .i64 t] [hsR pa pc po poc b x] (fun (_:Unit)=>.tuple #[evT (lsF x ((i:Nat):Int) t),.int .i64 (lsE x ((i:Nat):Int) t)]) (fun _=>True) (fun _=>[hsR pa pc po poc b x]):=by
 refine kS (n:=35) Tryz.func51 J J J ?_
 intro Γ w0
 simp only [argE,Ca,Na,Zd,Nat.reduceAdd]
 refine qL (qC ((.l 0 [] (.q 1 (.done)))) Kr ?_)
 refine cY J J J ω'119 (zs:=[.int .i64 0,.int .i64 0,.int .u64 0,.int .u64 0]) J ?_
 intro b6
 refine qV (qR J J J J (qS (qQ (qL (kV (qL ?_))))))
 have hlen:=hx.len
 have hil:=(List.getElem?_eq_some_iff.1 hw).1
 refine cP (A:=hsR pa pc po poc b x) Tk ?_
 refine hs_open fun vb mk va vc=>?_
 refine qC (.q 0 ((.l 1 [] (.q 2 (.q 3 (.done)))))) Kr ?_
 refine qK J J J J ?_
 have sp_1:=Hi.there_spec b vb (.int .i64 x.v.ck.th) (.slice va x.vars.length vc) (.map (some mk))
 refine qB J J J J J J κ'23 (sp_1) Ts ?_
 rintro ⟨⟩ -
 try simp only [Ca,Na]
 refine qV (rK J J J J ?_)
 refine kF 11 J (v':=.bool false) J ?_
 refine qR J J J J (qS (qW [0,1,2,6,8] (e':=[(0,_),(1,_),(2,_),(6,_),(8,_)]) J ?_))
 refine qQ (kN J ?_)
 refine qL (qC (.q 0 (.q 1 ((.l 2 [] (.q 3 (.q 4 (.q 5 (.q 6 (.q 7 (.q 8 (.q 9 (.q 10 (.q 11 (.q 12 (.q 13 (.q 14 (.q 15 (.q 16 (.done))))))))))))))))))) Kr ?_)
 refine qK J J J J (qK J J J J ?_)
 have sp_2:=at_spec b vb x.vars.length vc va (.int .i64 x.v.ck.th) (.map (some mk)) x.vars (by rfl) i w hw
 refine qB J J J J J J κ'95 (sp_2) Ts ?_
 rintro ⟨ab,ao_⟩ haa
 try simp only [Ca,Na]
 refine qV (cM J J J J υ'142 ?_)
 refine kF 17 J (v':=.bool false) J ?_
 refine qK J J J J (qK J J J J (qD J J J J J (sK _ _ _ _) ?_))
 refine kD J J J J J (qK J J J J ?_)
 refine cV 22 J (fun c2=>?_) (fun c2=>?_)
 ·
  refine qX J J J J (qX J J J J (qX J J J J (qX J J J J (qX J J J J (qX J J J J (kL J J J J J (qR J J J J (qS ?_))))))))
  refine qW [0,1,2,6,13] (e':=[(0,_),(1,_),(2,_),(6,_),(13,_)]) J ?_
  refine qQ (cC J ?_)
  refine qL (qC (.q 0 ((.l 1 [] (.q 2 (.done))))) Kr ?_)
  refine kB J J J J (vs:=[_,_,_,_]) (kQ υ'119 ω'119 (ps:=[(0,1),(1,1),(2,1),(3,1)]) ⟨rfl,ζ'3,rfl,ζ'3,rfl,ζ'97,rfl,ζ'97,trivial⟩ rfl) ?_
  refine kR (j:=0) J J J J ζ'119 (us:=[_,_,_,_]) J J J Tk Az (by first | decide | (simp;done) | omega) ?_
  simp only [setL,List.set]
  refine qV (qR J J J J (qS (qW [6,7] (e':=[(6,_),(7,_)]) J ?_)))
  refine qQ (qJ (kH (qN (hs_fold (b:=b) x (pa:=pa) (pc:=pc) (po:=po) (poc:=poc) (vb:=vb) (va:=va) (vc:=vc) (mk:=mk) (K:=x.keys) Ts (by rfl) (by rfl) (by rfl) ?_))))
  refine retL (us:=[_,_]) J ⟨cH J α'119 ζ'119 Tk 0 J (us:=[_,_,_,_]) J J,sV rfl,trivial⟩ (()) (by have h9:¬ lsOk x ((i:Nat):Int) t:=(by unfold lsOk;omega);rw [lsF,lsE,if_neg h9,if_neg h9];try rfl) (by trivial) ?_
  exact Tf
 refine qK J J J J (qK J J J J (qZ J J J J (qG (k:=1) J J J J υ'48 J ζ'3 J ?_)))
 refine qP (j:=1) J J J J α'3 Tk Az (by rfl) ?_
 refine qD J J J J J (b_geq _ _ _ _) ?_
 refine kD J J J J J (qR J J J J (qS (qW [0,1,2,6,13] (e':=[(0,_),(1,_),(2,_),(6,_),(13,_)]) J ?_)))
 refine qQ ?_
 refine qF J (fun c3=>?_) (fun c3=>?_)
 ·
  refine qL (qC (.q 0 ((.l 1 [] (.q 2 (.done))))) Kr ?_)
  refine kB J J J J (vs:=[_,_,_,_]) (kQ υ'119 ω'119 (ps:=[(0,1),(1,1),(2,1),(3,1)]) ⟨rfl,ζ'3,rfl,ζ'3,rfl,ζ'97,rfl,ζ'97,trivial⟩ rfl) ?_
  refine kR (j:=0) J J J J ζ'119 (us:=[_,_,_,_]) J J J Tk Az (by first | decide | (simp;done) | omega) ?_
  simp only [setL,List.set]
  refine qV (qR J J J J (qS (qW [6,7] (e':=[(6,_),(7,_)]) J ?_)))
  refine qQ (qJ (kH (qN (hs_fold (b:=b) x (pa:=pa) (pc:=pc) (po:=po) (poc:=poc) (vb:=vb) (va:=va) (vc:=vc) (mk:=mk) (K:=x.keys) Ts (by rfl) (by rfl) (by rfl) ?_))))
  refine retL (us:=[_,_]) J ⟨cH J α'119 ζ'119 Tk 0 J (us:=[_,_,_,_]) J J,sV rfl,trivial⟩ (()) (by have h9:¬ lsOk x ((i:Nat):Int) t:=(by unfold lsOk;omega);rw [lsF,lsE,if_neg h9,if_neg h9];try rfl) (by trivial) ?_
  exact Tf
 refine qH (kG (qQ (qL (qC (.q 0 (.q 1 (.q 2 ((.l 3 [] ((.l 4 [] (.q 5 (.done))))))))) Kr ?_))))
 refine qK J J J J (qK J J J J (qK J J J J ?_))
 have sp_3:=Hi.touched_spec b mk (.pointer (some ⟨vb,0,none⟩)) (.int .i64 x.v.ck.th) (.slice va x.vars.length vc) x.kept ((i:Nat):Int) t
 refine qB J J J J J J κ'62 (sp_3) Ts ?_
 rintro ⟨⟩ -
 try simp only [Ca,Na]
 refine qV (kR (j:=0) J J J J ζ'119 (us:=[_,_,_,_]) J J J Tk Az (by first | decide | (simp;done) | omega) ?_)
 simp only [setL,List.set]
 refine qV (qR J J J J (qS (qW [6,7] (e':=[(6,_),(7,_)]) J ?_)))
 refine qQ (qJ (hs_fold (b:=b) x (pa:=pa) (pc:=pc) (po:=po) (poc:=poc) (vb:=vb) (va:=va) (vc:=vc) (mk:=mk) (K:=x.keys) Ts (by rfl) (by rfl) (by rfl) ?_))
 refine retL (us:=[_,_]) J ⟨cH J α'119 ζ'119 Tk 0 J (us:=[_,_,_,_]) J J,sV rfl,trivial⟩ (()) (by have h9:lsOk x ((i:Nat):Int) t:=(by unfold lsOk;omega);rw [lsF,lsE,if_pos h9,if_pos h9];try rfl) (by trivial) ?_
 exact Tf
theorem hlast_none (pa:Option Addr) (pc:Nat) (po:Option Addr) (poc b:Nat) (x:HS) (hx:SInv x) (t:Int) (z:Int) (hz:z < 0∨(x.vars.length:Int)≤z):Spec Tryz.prog 51 [.pointer (some ⟨b,0,none⟩),.int .i64 z,.int .i64 t] [hsR pa pc po poc b x] (fun (_:Unit)=>.tuple #[evT (lsF x z t),.int .i64 (lsE x z t)]) (fun _=>True) (fun _=>[hsR pa pc po poc b x]):=by
 refine kS (n:=35) Tryz.func51 J J J ?_
 intro Γ w0
 simp only [argE,Ca,Na,Zd,Nat.reduceAdd]
 refine qL (qC ((.l 0 [] (.q 1 (.done)))) Kr ?_)
 refine cY J J J ω'119 (zs:=[.int .i64 0,.int .i64 0,.int .u64 0,.int .u64 0]) J ?_
 intro b6
 refine qV (qR J J J J (qS (qQ (qL (kV (qL ?_))))))
 have hlen:=hx.len
 refine cP (A:=hsR pa pc po poc b x) Tk ?_
 refine hs_open fun vb mk va vc=>?_
 refine qC (.q 0 ((.l 1 [] (.q 2 (.q 3 (.done)))))) Kr ?_
 refine qK J J J J ?_
 have sp_1:=Hi.there_spec b vb (.int .i64 x.v.ck.th) (.slice va x.vars.length vc) (.map (some mk))
 refine qB J J J J J J κ'23 (sp_1) Ts ?_
 rintro ⟨⟩ -
 try simp only [Ca,Na]
 refine qV (rK J J J J ?_)
 refine kF 11 J (v':=.bool false) J ?_
 refine qR J J J J (qS (qW [0,1,2,6,8] (e':=[(0,_),(1,_),(2,_),(6,_),(8,_)]) J ?_))
 refine qQ (kN J ?_)
 refine qL (qC (.q 0 (.q 1 ((.l 2 [] (.q 3 (.q 4 (.q 5 (.q 6 (.q 7 (.q 8 (.q 9 (.q 10 (.q 11 (.q 12 (.q 13 (.q 14 (.q 15 (.q 16 (.done))))))))))))))))))) Kr ?_)
 refine qK J J J J (qK J J J J ?_)
 have sp_2:=atno_spec b vb x.vars.length vc va (.int .i64 x.v.ck.th) (.map (some mk)) x.vars (by rfl) z hz
 refine qB J J J J J J κ'95 (sp_2) Ts ?_
 rintro ⟨⟩ -
 try simp only [Ca,Na]
 refine qV (cM J J J J υ'142 ?_)
 refine kF 17 J (v':=.bool true) J ?_
 refine qK J J J J (qX J J J J (qX J J J J (kL J J J J J (qK J J J J (qX J J J J (qX J J J J (qX J J J J (qX J J J J ?_))))))))
 refine qX J J J J (qX J J J J (kL J J J J J (qR J J J J (qS (qW [0,1,2,6,13] (e':=[(0,_),(1,_),(2,_),(6,_),(13,_)]) J ?_)))))
 refine qQ (cC J ?_)
 refine qL (qC (.q 0 ((.l 1 [] (.q 2 (.done))))) Kr ?_)
 refine kB J J J J (vs:=[_,_,_,_]) (kQ υ'119 ω'119 (ps:=[(0,1),(1,1),(2,1),(3,1)]) ⟨rfl,ζ'3,rfl,ζ'3,rfl,ζ'97,rfl,ζ'97,trivial⟩ rfl) ?_
 refine kR (j:=0) J J J J ζ'119 (us:=[_,_,_,_]) J J J Tk Az (by first | decide | (simp;done) | omega) ?_
 simp only [setL,List.set]
 refine qV (qR J J J J (qS (qW [6,7] (e':=[(6,_),(7,_)]) J ?_)))
 refine qQ (qJ (kH (qN (hs_fold (b:=b) x (pa:=pa) (pc:=pc) (po:=po) (poc:=poc) (vb:=vb) (va:=va) (vc:=vc) (mk:=mk) (K:=x.keys) Ts (by rfl) (by rfl) (by rfl) ?_))))
 refine retL (us:=[_,_]) J ⟨cH J α'119 ζ'119 Tk 0 J (us:=[_,_,_,_]) J J,sV rfl,trivial⟩ (()) (by have h9:¬ lsOk x z t:=(by unfold lsOk;omega);rw [lsF,lsE,if_neg h9,if_neg h9];try rfl) (by trivial) ?_
 exact Tf
theorem hpair_spec (pa:Option Addr) (pc:Nat) (po:Option Addr) (poc b:Nat) (x:HS) (hx:SInv x) (z:Int):Spec Tryz.prog 47 [.pointer (some ⟨b,0,none⟩),.int .i64 z] [hsR pa pc po poc b x] (fun (_:Unit)=>.tuple #[.agg #[.int .i64 (wH x z).1.1,.int .i64 (wH x z).1.2.1,.int .i64 (wH x z).1.2.2],.bool (wH x z).2.2.1]) (fun _=>True) (fun _=>[hsR pa pc po poc b x]):=by
  rcases wH_cases x z with ⟨i,w,rfl,hw⟩ | hz
  · exact hpair_some pa pc po poc b x hx i w hw
  · exact hpair_none pa pc po poc b x hx z hz
theorem hlatest_spec (pa:Option Addr) (pc:Nat) (po:Option Addr) (poc b:Nat) (x:HS) (hx:SInv x) (z:Int):Spec Tryz.prog 49 [.pointer (some ⟨b,0,none⟩),.int .i64 z] [hsR pa pc po poc b x] (fun (_:Unit)=>.tuple #[.agg #[.int .i64 (wH x z).2.1.1,.int .i64 (wH x z).2.1.2.1,.int .i64 (wH x z).2.1.2.2],.bool (wH x z).2.2.1]) (fun _=>True) (fun _=>[hsR pa pc po poc b x]):=by
  rcases wH_cases x z with ⟨i,w,rfl,hw⟩ | hz
  · exact hlatest_some pa pc po poc b x hx i w hw
  · exact hlatest_none pa pc po poc b x hx z hz
theorem htou_spec (pa:Option Addr) (pc:Nat) (po:Option Addr) (poc b:Nat) (x:HS) (hx:SInv x) (L:List KA) (hR:HRel L x) (z:Int):Spec Tryz.prog 54 [.pointer (some ⟨b,0,none⟩),.int .i64 z] [hsR pa pc po poc b x] (fun (_:Unit)=>.tuple #[.agg #[.int .i64 (wH x z).2.2.2.1.1,.int .i64 (wH x z).2.2.2.1.2.1,.int .i64 (wH x z).2.2.2.1.2.2],.int .i64 (wH x z).2.2.2.2,.bool (decide ((wH x z).2.2.2.1.1≠0))]) (fun _=>True) (fun _=>[hsR pa pc po poc b x]):=by
  rcases wH_cases x z with ⟨i,w,rfl,hw⟩ | hz
  · exact htou_some pa pc po poc b x hx L hR i w hw
  · exact htou_none pa pc po poc b x hx L hR z hz
theorem hlast_spec (pa:Option Addr) (pc:Nat) (po:Option Addr) (poc b:Nat) (x:HS) (hx:SInv x) (t:Int) (z:Int):Spec Tryz.prog 51 [.pointer (some ⟨b,0,none⟩),.int .i64 z,.int .i64 t] [hsR pa pc po poc b x] (fun (_:Unit)=>.tuple #[evT (lsF x z t),.int .i64 (lsE x z t)]) (fun _=>True) (fun _=>[hsR pa pc po poc b x]):=by
  rcases wH_cases x z with ⟨i,w,rfl,hw⟩ | hz
  · exact hlast_some pa pc po poc b x hx t i w hw
  · exact hlast_none pa pc po poc b x hx t z hz
theorem mclonet_spec (m:Nat) (F:Int × Int→Option Tch):Spec Tryz.prog 42 [.map (some m)] [mapO ek2 evT m F] (fun (r:Nat)=>.map (some r)) (fun r=>True) (fun r=>[mapO ek2 evT r F,mapO ek2 evT m F]):=by
 refine kS (n:=9) Tryz.func42 J J J ?_
 intro Γ w0
 simp only [argE,Ca,Na,Zd,Nat.reduceAdd]
 refine qL (qC (.q 0 (.done)) Kr ?_)
 refine qR J J J J (qS (qQ (qL (qL (qC (.q 0 (.q 1 (.done))) Kr ?_)))))
 refine qK J J J J (q_eq_nilm J J J J υ'46 ?_)
 refine kF 4 J (v':=.bool false) J ?_
 refine qS (qQ (kN J ?_))
 refine qH (qQ (qL (qC (.q 0 (.q 1 ((.l 2 [] ((.l 3 [] (.q 4 (.done)))))))) Kr ?_)))
 refine qK J J J J (q_iface J J J J υ'46 ?_)
 refine l_mapClone (ek:=ek2) (ev1:=evT) (F:=F) (m:=m) J J J J Tryz.func92 J J Kr Kr Tk ?_
 intro mq
 refine qV (l_assert J J J J υ'46 ?_)
 refine qV (qR J J J J (qS (qW [2] (e':=[(2,_)]) J ?_)))
 refine qQ (qJ (cR J J (mq) (by first | rfl | (first | rfl | (congr 1;done) | (congr 1 <;> first | rfl | omega | (simp;done) | (simp;omega)))) (by trivial) ?_))
 exact Tf
theorem cloned_spec (xs:List Tld) (ao:Option Addr) (n c:Nat) (A:HProp) (hn:xs.length=n) (hr:RdS A ao (xs.flatMap encD)) (hb:xs.length≤4000000000):Spec Tryz.prog 41 [.slice ao n c] [A] (fun (r:Option Addr × Nat)=>.slice r.1 n r.2) (fun r=>True) (fun r=>[A,own 11 encD r.1 r.2 xs]):=by
 refine kS (n:=8) Tryz.func41 J J J ?_
 intro Γ w0
 simp only [argE,Ca,Na,Zd,Nat.reduceAdd]
 refine qL (qC (.q 0 (.done)) Kr ?_)
 refine qR J J J J (qS (qQ (qL (qL (qC (.q 0 (.q 1 (.done))) Kr ?_)))))
 refine qK J J J J (q_eq_nils J J J J υ'45 ?_)
 refine qS (qQ ?_)
 refine c_cond J (fun hno=>?_) (fun hno=>?_)
 ·
  try simp only [Bool.and_eq_true,Bool.or_eq_true,Bool.not_eq_true',Bool.not_eq_false',Bool.and_eq_false_iff,Bool.or_eq_false_iff,decide_eq_true_eq,decide_eq_false_iff_not] at hno
  have hx:=Vc.rds_nil hr encD_len (by simpa using hno)
  subst hx
  obtain rfl:n=0:=by simpa using hn.symm
  refine cL (fun _ h=>sY (sz:=11) (enc:=encD) h) ?_
  refine qL (qC (.q 0 (.done)) Kr ?_)
  refine qR J J J J (qS (qQ (qJ (qN (cR J J ((none,0)) (by first | rfl | (first | rfl | (congr 1;done) | (congr 1 <;> first | rfl | omega | (simp;done) | (simp;omega)))) (by trivial) ?_)))))
  exact Tf
 try simp only [Bool.and_eq_true,Bool.or_eq_true,Bool.not_eq_true',Bool.not_eq_false',Bool.and_eq_false_iff,Bool.or_eq_false_iff,decide_eq_true_eq,decide_eq_false_iff_not] at hno
 refine qH (qQ (qL (qC ((.l 0 [] (.q 1 ((.l 2 [] (.q 3 (.done))))))) Kr ?_)))
 refine cG J J J J υ'45 ζ'90 ?_
 intro b5
 refine qV (qK J J J J (cP (A:=cells b5 0 []) Tk ?_))
 refine cL (fun _ h=>own_mk (sz:=11) (enc:=encD) (xs:=[]) (sp:=[]) (cap:=0) (Nat.le_refl _) J h) ?_
 refine cN (sz:=11) (enc:=encD) (xs:=[]) J J J J J υ'45 Tryz.typeInfo90 J J J (by decide) Tk Tk (by first | rfl | omega | (simp;done) | (simp;omega)) (ys:=xs) (hr) (by rfl) (by exact hn) (encD_len) (encD_one) Om (by show _*88≤_;omega) ?_
 intro ao7 cp7
 try simp only [Na]
 refine qV (qR J J J J (qS (qW [2] (e':=[(2,_)]) J ?_)))
 refine qQ (qJ (cR J J ((ao7,cp7)) (by rw [Zd]) (by trivial) ?_))
 exact Tf
theorem hcopy_spec (pa:Option Addr) (pc:Nat) (po:Option Addr) (poc b:Nat) (x:HS) (hx:SInv x):Spec Tryz.prog 20 [.pointer (some ⟨b,0,none⟩)] [hsR pa pc po poc b x] (fun (r:Nat)=>.pointer (some ⟨r,0,none⟩)) (fun r=>True) (fun r=>[hsR pa pc po poc b x,hsR pa pc po poc r x,headP r 4]):=by
 refine kS (n:=27) Tryz.func20 J J J ?_
 intro Γ w0
 simp only [argE,Ca,Na,Zd,Nat.reduceAdd]
 refine qL (qC (.q 0 (.done)) Kr ?_)
 refine qR J J J J (qS (qQ (qL (qL ?_))))
 have hlen:=hx.len
 have hva:=hx.v.ck.sh.va
 refine cP (A:=hsR pa pc po poc b x) Tk ?_
 refine hs_open fun vb mk va vc=>?_
 refine qC (.q 0 ((.l 1 [] (.q 2 (.done))))) Kr ?_
 refine qK J J J J ?_
 have sp_1:=Hi.there_spec b vb (.int .i64 x.v.ck.th) (.slice va x.vars.length vc) (.map (some mk))
 refine qB J J J J J J κ'23 (sp_1) Ts ?_
 rintro ⟨⟩ -
 try simp only [Ca,Na]
 refine qV (rK J J J J ?_)
 refine kF 5 J (v':=.bool false) J ?_
 refine qS (qQ (kN J ?_))
 refine qH (qQ (qL (kM J (.q 0 (.q 1 (.q 2 (.q 3 (.q 5 (.q 6 (.q 7 (.q 8 (.q 9 (.q 10 (.q 11 (.q 12 (.q 14 (.q 15 (.q 16 (.q 17 ((.l 4 [8,12,17] ((.l 13 [8,17] ((.l 18 [8] (.q 19 ((.l 20 [] (.q 21 (.done))))))))))))))))))))))))))) Kr ?_)))
 refine qK J J J J (qZ J J J J (qG (k:=0) J J J J υ'48 J ζ'44 J ?_))
 refine qP (j:=0) J J J J α'44 Tk Az (by rfl) ?_
 refine qK J J J J (qZ J J J J (qG (k:=1) J J J J υ'48 J ζ'3 J ?_))
 refine qP (j:=1) J J J J α'3 Tk Az (by rfl) ?_
 refine qK J J J J (qZ J J J J (qG (k:=2) J J J J υ'48 J ζ'45 J ?_))
 refine qP (j:=2) J J J J α'45 Tk Az (by rfl) ?_
 refine qK J J J J (qZ J J J J (qG (k:=3) J J J J υ'48 J ζ'46 J ?_))
 refine qP (j:=3) J J J J α'46 Tk Az (by rfl) ?_
 have sp_2:=dvcopy_spec pa pc po poc vb x.v hx.v
 refine qB J J J J J J Tryz.call40 (sp_2) Ts ?_
 rintro vq -
 try simp only [Ca,Na]
 refine qM (q:=1) J J J α'3 Tk Az (by rfl) ?_
 refine qM (q:=2) J J J α'45 Tk Az (by rfl) ?_
 refine qM (q:=3) J J J α'46 Tk Az (by rfl) ?_
 refine qV (cP (A:=own 11 encD va vc x.vars) Tk ?_)
 refine own_fc fun f_3a f_3b f_3c=>?_
 have sp_4:=cloned_spec x.vars va x.vars.length vc (own 11 encD va vc x.vars) (by rfl) (rC encD_len (fun h=>(f_3b h).1) f_3c) Om
 refine qB J J J J J J Tryz.call41 (sp_4) Ts ?_
 rintro ⟨wa,wc⟩ -
 try simp only [Ca,Na]
 refine qM (q:=1) J J J α'3 Tk Az (by rfl) ?_
 refine qM (q:=3) J J J α'46 Tk Az (by rfl) ?_
 refine qV ?_
 have sp_5:=mclonet_spec mk x.kept
 refine qB J J J J J J Tryz.call42 (sp_5) Ts ?_
 rintro mq -
 try simp only [Ca,Na]
 refine qM (q:=1) J J J α'3 Tk Az (by rfl) ?_
 refine qV (kB J J J J (vs:=[_,_,_,_]) (kQ υ'48 ω'48 (ps:=[(0,1),(1,1),(2,1),(3,1)]) ⟨rfl,ζ'44,rfl,ζ'3,rfl,ζ'45,rfl,ζ'46,trivial⟩ rfl) ?_)
 refine l_boxH 4 J J J J (us:=[_,_,_,_]) J J ?_
 intro b26
 refine qV (qR J J J J (qS (qW [2] (e':=[(2,_)]) J ?_)))
 refine qQ (qJ (hs_fold (b:=b) x (pa:=pa) (pc:=pc) (po:=po) (poc:=poc) (vb:=vb) (va:=va) (vc:=vc) (mk:=mk) (K:=x.keys) Ts (by rfl) (by rfl) (by rfl) ?_))
 refine hs_fold (b:=b26) x (pa:=pa) (pc:=pc) (po:=po) (poc:=poc) (vb:=vq) (va:=wa) (vc:=wc) (mk:=mq) (K:=x.keys) Ts (by rfl) (by rfl) (by rfl) ?_
 refine cR J J (b26) (by first | rfl | (first | rfl | (congr 1;done) | (congr 1 <;> first | rfl | omega | (simp;done) | (simp;omega)))) (by trivial) ?_
 exact Tf
end Go.Ab.Rh
set_option linter.unusedVariables false
set_option linter.unusedSimpArgs false
set_option maxRecDepth 100000
namespace Go.Ab.Rh
open Go Go.Proofs Go.Ab Go.Ab.Fe Go.Ab.Vc Go.Ab.Dj Go.Ab.Rv Go.Ab.Hi
/-- A history and the document's list of its accesses. -/
abbrev HA:=HS × List KA
def hE2 (x:HA) (k t o:Int):HA:=(heF x.1 k t o,heA x.1 x.2 k t o)
def hA2 (x:HA) (es:List T3):HA:=(hAll x.1 es,hAllL x.1 x.2 es)
abbrev zc (b:Nat):HProp:=cells b 0 [.pointer none,.int .i64 0,.slice none 0 0,.map none]
/-- The program's history in a place. -/
def ownP (pa:Option Addr) (pc:Nat) (po:Option Addr) (poc:Nat) (o:Option Addr):Option HA→HProp
  | none=>fun h=>o=none∨∃ b,o=some ⟨b,0,none⟩∧zc b h
  | some x=>fun h=>∃ b,o=some ⟨b,0,none⟩∧hsR pa pc po poc b x.1 h
/-- The document's history in a place. -/
def refP (ra:Option Addr) (rc:Nat) (r:Option Addr):Option HA→HProp
  | none=>fun _=>r=none
  | some x=>fun h=>∃ b,r=some ⟨b,0,none⟩∧rhR ra rc b x.1 x.2 h
/-- The head of a fresh block, if there is one. -/
def hdP (r:Option Addr):HProp:=fun h=>∀ a,r=some a→∃ b,a=⟨b,0,none⟩∧headP b 4 h
section
variable {P:Program} {f:FuncId} {args:List Value} {Δ:List HProp} {α:Type} {v:α→Value} {φ:α→Prop} {Δ':α→List HProp}
theorem own_up {pa:Option Addr} {pc:Nat} {po:Option Addr} {poc:Nat} {o:Option Addr} {m:Option HA} (m':α→Option HA) (a0:α) (v0:Value)
    (N:Spec P f (.pointer none::args) [] (fun (_:Unit)=>v0) (fun _=>True) (fun _=>[]))
    (Z:∀ b,Spec P f (.pointer (some ⟨b,0,none⟩)::args) [zc b] (fun (_:Unit)=>v0) (fun _=>True) (fun _=>[zc b]))
    (hn:m=none→v a0=v0∧φ a0∧m' a0=none∧∀ Γ h,Sat (Δ++Γ) h→Sat (Δ' a0++Γ) h)
    (hs:∀ x,m=some x→∃ x':α→HA,(∀ a,m' a=some (x' a))∧∀ b,o=some ⟨b,0,none⟩→Spec P f (.pointer (some ⟨b,0,none⟩)::args) (hsR pa pc po poc b x.1::Δ) v φ (fun a=>hsR pa pc po poc b (x' a).1::Δ' a)) :
    Spec P f (.pointer o::args) (ownP pa pc po poc o m::Δ) v φ (fun a=>ownP pa pc po poc o (m' a)::Δ' a):=fun Γ w s=>by
  obtain ⟨h1,l1,a1,s1⟩:=s
  cases m with
  | none =>
    obtain ⟨e1,e2,e3,e4⟩:=hn rfl
    rcases a1 with rfl | ⟨b,rfl,a1⟩
    · refine (N (Δ++Γ) w (s1.mono (Hmin_le _ _))).mono fun e w' ⟨_,q1,_,s',a⟩=>⟨a0,by rw [q1,e1],e2,?_,a⟩
      show Sat (ownP pa pc po poc none (m' a0)::(Δ' a0++Γ)) _
      rw [e3]
      exact sat_free (.inl J) (e4 _ _ s')
    · refine (Z b (Δ++Γ) w ⟨h1,l1,a1,s1⟩).mono fun e w' ⟨_,q1,_,⟨h2,l2,a2,s2⟩,a⟩=>⟨a0,by rw [q1,e1],e2,?_,a⟩
      show Sat (ownP pa pc po poc (some ⟨b,0,none⟩) (m' a0)::(Δ' a0++Γ)) _
      rw [e3]
      exact ⟨h2,l2,.inr ⟨b,rfl,a2⟩,e4 _ _ s2⟩
  | some x =>
    obtain ⟨x',e1,k⟩:=hs x rfl
    obtain ⟨b,rfl,a1⟩:=a1
    refine (k b J Γ w ⟨h1,l1,a1,s1⟩).mono fun e w' ⟨y,q1,q2,⟨h2,l2,a2,s2⟩,a⟩=>⟨y,q1,q2,?_,a⟩
    show Sat (ownP pa pc po poc (some ⟨b,0,none⟩) (m' y)::(Δ' y++Γ)) _
    rw [e1]
    exact ⟨h2,l2,⟨b,rfl,a2⟩,s2⟩
theorem ref_up {ra:Option Addr} {rc:Nat} {o:Option Addr} {m:Option HA} (m':α→Option HA) (a0:α) (v0:Value)
    (N:Spec P f (.pointer none::args) [] (fun (_:Unit)=>v0) (fun _=>True) (fun _=>[]))
    (hn:m=none→v a0=v0∧φ a0∧m' a0=none∧∀ Γ h,Sat (Δ++Γ) h→Sat (Δ' a0++Γ) h)
    (hs:∀ x,m=some x→∃ x':α→HA,(∀ a,m' a=some (x' a))∧∀ b,o=some ⟨b,0,none⟩→Spec P f (.pointer (some ⟨b,0,none⟩)::args) (rhR ra rc b x.1 x.2::Δ) v φ (fun a=>rhR ra rc b (x' a).1 (x' a).2::Δ' a)) :
    Spec P f (.pointer o::args) (refP ra rc o m::Δ) v φ (fun a=>refP ra rc o (m' a)::Δ' a):=fun Γ w s=>by
  obtain ⟨h1,l1,a1,s1⟩:=s
  cases m with
  | none =>
    obtain ⟨e1,e2,e3,e4⟩:=hn rfl
    obtain rfl:o=none:=a1
    refine (N (Δ++Γ) w (s1.mono (Hmin_le _ _))).mono fun e w' ⟨_,q1,_,s',a⟩=>⟨a0,by rw [q1,e1],e2,?_,a⟩
    show Sat (refP ra rc none (m' a0)::(Δ' a0++Γ)) _
    rw [e3]
    exact sat_free J (e4 _ _ s')
  | some x =>
    obtain ⟨x',e1,k⟩:=hs x rfl
    obtain ⟨b,rfl,a1⟩:=a1
    refine (k b J Γ w ⟨h1,l1,a1,s1⟩).mono fun e w' ⟨y,q1,q2,⟨h2,l2,a2,s2⟩,a⟩=>⟨y,q1,q2,?_,a⟩
    show Sat (refP ra rc (some ⟨b,0,none⟩) (m' y)::(Δ' y++Γ)) _
    rw [e1]
    exact ⟨h2,l2,⟨b,rfl,a2⟩,s2⟩
end
/-! What a place answers. -/
def sE (m:Option HA) (k t o:Int):Int:=match m with | none=>1 | some x=>heE x.1 k t o
def sPr (m:Option HA):List T3:=match m with | none=>[] | some x=>prF x.1.vars
def sW (m:Option HA) (z:Int):Tld:=match m with | none=>t0 | some x=>wH x.1 z
def sLs (m:Option HA) (o t:Int):Tch:=match m with | none=>(0,0,0,0) | some x=>lsF x.1 o t
def sLe (m:Option HA) (o t:Int):Int:=match m with | none=>1 | some x=>lsE x.1 o t
def sAg (m:Option HA) (k t o:Int):List Int:=match m with | none=>[] | some x=>if canF x.1.v.ck k t o then agF x.1 k t o else []
def sAe (m:Option HA) (k t o:Int):Int:=match m with | none=>1 | some x=>if canF x.1.v.ck k t o then 0 else 6
def sN (m:Option HA):Int:=match m with | none=>0 | some x=>x.1.v.ck.n
/-- What is known of a place's history. -/
def SOk (pl:List Int) (N:Int) (m:Option HA):Prop:=∀ x,m=some x→SInv x.1∧HRel x.2 x.1∧x.1.v.ck.pa=pl∧x.1.v.ck.n≤N
/-- Events are done up to the first that cannot be. -/
def EvsOk (m:Option HA) (xs:List T3) (n i:Nat):Prop:=i≤n∧(m=none→i=0)∧∀ x,m=some x→okH x.1 (xs.take i)∧(i < n→∀ e,xs[i]?=some e→¬ canH (hAll x.1 (xs.take i)) e)
def evsE (m:Option HA) (n i:Nat):Int:=match m with | none=>1 | some _=>if i=n then 0 else 6
theorem evs_uniq {m:Option HA} {xs:List T3} {n i j:Nat} (hn:xs.length=n) (hi:EvsOk m xs n i) (hj:EvsOk m xs n j):i=j:=by
  have key:∀ {x:HS} {i j:Nat},i < j→j≤n→okH x (xs.take j)→(i < n→∀ e,xs[i]?=some e→¬ canH (hAll x (xs.take i)) e)→False:=fun {x i j} h1 h2 h3 h4=>by
    obtain ⟨e,he⟩:=cX (l:=xs) (i:=i) Om
    have h5:=h3 i e (by rw [List.getElem?_take_of_lt h1];exact he)
    rw [List.take_take,Nat.min_eq_left Om] at h5
    exact h4 Om e he h5
  cases m with
  | none=>rw [hi.2.1 rfl,hj.2.1 rfl]
  | some x =>
    obtain ⟨a1,a2⟩:=hi.2.2 x rfl
    obtain ⟨b1,b2⟩:=hj.2.2 x rfl
    rcases Nat.lt_trichotomy i j with h | h | h
    · exact (key h hj.1 b1 a2).elim
    · exact h
    · exact (key h hi.1 a1 b2).elim
theorem sok_map {pl:List Int} {N:Int} {m:Option HA} (h:SOk pl N m) (k t o:Int):SOk pl (N+1) (m.map fun x=>hE2 x k t o):=fun y hy=>by
  cases m with
  | none=>cases hy
  | some x =>
    obtain rfl:=Option.some.inj hy
    obtain ⟨h1,h2,h3,h4⟩:=h x rfl
    have h5:=he_n (x:=x.1) k t o
    exact ⟨he_inv h1 k t o,rel_he h1 h2 k t o,h5.2.1.trans h3,by have:=h5.1;show (heF x.1 k t o).v.ck.n≤_;omega⟩
theorem sok_more {pl:List Int} {N M:Int} {m:Option HA} (h:SOk pl N m) (hN:N≤M):SOk pl M m:=fun x hx=>by
  obtain ⟨h1,h2,h3,h4⟩:=h x hx
  exact ⟨h1,h2,h3,by omega⟩
theorem sok_all {pl:List Int} {N M:Int} {m:Option HA} (h:SOk pl N m) (es:List T3) (hN:N+es.length≤M):SOk pl M (m.map fun x=>hA2 x es):=fun y hy=>by
  cases m with
  | none=>cases hy
  | some x =>
    obtain rfl:=Option.some.inj hy
    obtain ⟨h1,h2,h3,h4⟩:=h x rfl
    have h5:=hAll_n es x.1
    exact ⟨hAll_inv h1 es,rel_all es h1 h2,h5.2.1.trans h3,by have:=h5.1;show (hAll x.1 es).v.ck.n≤_;omega⟩
theorem hs_ne {pa:Option Addr} {pc:Nat} {po:Option Addr} {poc b r:Nat} {x y:HS} {Γ:List HProp} {h:Hp} (s:Sat (hsR pa pc po poc b x::hsR pa pc po poc r y::Γ) h):r≠b:=fun e=>by
  subst e
  obtain ⟨k1,l1,⟨_,_,_,_,c1,m1,b1,_⟩,k2,l2,⟨_,_,_,_,c2,m2,b2,_⟩,_⟩:=s
  have h1:=m1 _ _ (b1 0 _ rfl)
  have h2:=l2 _ _ (m2 _ _ (b2 0 _ rfl))
  have h3:=(sM.1 h2).1
  rw [h1] at h3;cases h3
theorem dtheren:Spec Tryz.prog 23 [.pointer none] [] (fun (_:Unit)=>.bool false) (fun _=>True) (fun _=>[]):=by
 refine kS (n:=12) Tryz.func23 J J J ?_
 intro Γ w0
 simp only [argE,Ca,Na,Zd,Nat.reduceAdd]
 refine qL (qC (.q 0 (.done)) Kr ?_)
 refine qR J J J J (qS (qQ (qL (qC (.q 0 (.q 1 (.q 2 (.q 3 (.q 4 (.q 5 (.q 6 (.q 7 (.q 8 (.q 9 (.done))))))))))) Kr ?_))))
 refine qK J J J J (q_ne_nil J J J J υ'29 ?_)
 refine kF 4 J (v':=.bool false) J ?_
 refine qK J J J J (qX J J J J (qX J J J J (qX J J J J (qX J J J J (qX J J J J (kD J J J J J (qR J J J J (qS ?_))))))))
 refine qW [2] (e':=[(2,_)]) J ?_
 refine qQ (qJ (cR J J (()) (by first | rfl | (first | rfl | (congr 1;done) | (congr 1 <;> first | rfl | omega | (simp;done) | (simp;omega)))) (by trivial) ?_))
 exact Tf
theorem datn (z:Int):Spec Tryz.prog 95 [.pointer none,.int .i64 z] [] (fun (_:Unit)=>.pointer none) (fun _=>True) (fun _=>[]):=by
 refine kS (n:=27) Tryz.func95 J J J ?_
 intro Γ w0
 simp only [argE,Ca,Na,Zd,Nat.reduceAdd]
 refine qL (qC (.q 0 (.done)) Kr ?_)
 refine qR J J J J (qS (qQ (qL (qL (qC (.q 0 ((.l 1 [] (.q 2 (.q 3 (.q 4 (.q 5 (.q 6 (.q 7 (.q 8 (.q 9 (.q 10 (.q 11 (.q 12 (.q 13 (.q 14 (.q 15 (.done)))))))))))))))))) Kr ?_)))))
 refine qK J J J J ?_
 have sp_1:=dtheren
 refine qB J J J J J J κ'23 (sp_1) Ts ?_
 rintro ⟨⟩ -
 try simp only [Ca,Na]
 refine qV (rK J J J J ?_)
 refine kF 7 J (v':=.bool true) J ?_
 refine qK J J J J (qX J J J J (qX J J J J (kL J J J J J (qK J J J J (qX J J J J (qX J J J J (qX J J J J (qX J J J J ?_))))))))
 refine qX J J J J (qX J J J J (qX J J J J (kL J J J J J (qS (qW [0,1,20] (e':=[(0,_),(1,_),(20,_)]) J ?_)))))
 refine qQ (cC J ?_)
 refine qL (qC (.q 0 (.done)) Kr ?_)
 refine qR J J J J (qS (qQ (qJ (qN (cR J J (()) (by first | rfl | (first | rfl | (congr 1;done) | (congr 1 <;> first | rfl | omega | (simp;done) | (simp;omega)))) (by trivial) ?_)))))
 exact Tf
theorem devn (k t o:Int):Spec Tryz.prog 15 [.pointer none,.agg #[.int .i64 k,.int .i64 t,.int .i64 o]] [] (fun (_:Unit)=>.int .i64 1) (fun _=>True) (fun _=>[]):=by
 refine kS (n:=30) Tryz.func15 J J J ?_
 intro Γ w0
 simp only [argE,Ca,Na,Zd,Nat.reduceAdd]
 refine qL (qC ((.l 0 [] (.q 1 (.done)))) Kr ?_)
 refine sG J J J J (us:=[_,_,_]) J ?_
 intro b3
 refine qV (qR J J J J (qS (qQ (qL (qL (qC (.q 0 ((.l 1 [] (.q 2 (.done))))) Kr ?_))))))
 refine qK J J J J ?_
 have sp_1:=dtheren
 refine qB J J J J J J κ'23 (sp_1) Ts ?_
 rintro ⟨⟩ -
 try simp only [Ca,Na]
 refine qV (rK J J J J ?_)
 refine kF 7 J (v':=.bool true) J ?_
 refine qS (qW [0,3,7] (e':=[(0,_),(3,_),(7,_)]) J ?_)
 refine qQ (cC J ?_)
 refine qL (qC (.q 0 (.done)) Kr ?_)
 refine qR J J J J (qS (qQ (qJ (qN (cR J J (()) (by first | rfl | (first | rfl | (congr 1;done) | (congr 1 <;> first | rfl | omega | (simp;done) | (simp;omega)))) (by trivial) ?_)))))
 exact Tf
theorem devsn (so:Option Addr) (sn sc:Nat):Spec Tryz.prog 10 [.pointer none,.slice so sn sc] [] (fun (_:Unit)=>.tuple #[.int .i64 0,.int .i64 1]) (fun _=>True) (fun _=>[]):=by
 refine kS (n:=29) Tryz.func10 J J J ?_
 intro Γ w0
 simp only [argE,Ca,Na,Zd,Nat.reduceAdd]
 refine qL (qC (.q 0 (.q 1 (.done))) Kr ?_)
 refine qR J J J J (qR J J J J (qS (qQ (qL (qL (qC (.q 0 ((.l 1 [] (.q 2 (.done))))) Kr ?_))))))
 refine qK J J J J ?_
 have sp_1:=dtheren
 refine qB J J J J J J κ'23 (sp_1) Ts ?_
 rintro ⟨⟩ -
 try simp only [Ca,Na]
 refine qV (rK J J J J ?_)
 refine kF 11 J (v':=.bool true) J ?_
 refine qS (qW [0,1,11] (e':=[(0,_),(1,_),(11,_)]) J ?_)
 refine qQ (cC J ?_)
 refine qL (qC (.q 0 (.q 1 (.done))) Kr ?_)
 refine qR J J J J (qR J J J J (qS (qQ (qJ (qN (ret2 J J J (()) (by first | rfl | (first | rfl | (congr 1;done) | (congr 1 <;> first | rfl | omega | (simp;done) | (simp;omega)))) (by trivial) ?_))))))
 exact Tf
theorem dprn:Spec Tryz.prog 13 [.pointer none] [] (fun (_:Unit)=>.slice none 0 0) (fun _=>True) (fun _=>[]):=by
 refine kS (n:=26) Tryz.func13 J J J ?_
 intro Γ w0
 simp only [argE,Ca,Na,Zd,Nat.reduceAdd]
 refine qL (qC (.q 0 (.done)) Kr ?_)
 refine qR J J J J (qS (qQ (qL (qC (.q 0 (.done)) Kr ?_))))
 refine qR J J J J (qS (qQ (qL (qL (qC (.q 0 ((.l 1 [] (.done)))) Kr ?_)))))
 refine qK J J J J ?_
 have sp_1:=dtheren
 refine qB J J J J J J κ'23 (sp_1) Ts ?_
 rintro ⟨⟩ -
 try simp only [Ca,Na]
 refine qV (qS (qQ (kN J ?_)))
 refine qH (qQ (qL (qC (.q 0 (.q 1 (.done))) Kr ?_)))
 refine qK J J J J (qR J J J J (qS (qW [2] (e':=[(2,_)]) J ?_)))
 refine qQ (qJ (cR J J (()) (by first | rfl | (first | rfl | (congr 1;done) | (congr 1 <;> first | rfl | omega | (simp;done) | (simp;omega)))) (by trivial) ?_))
 exact Tf
theorem dlen:Spec Tryz.prog 45 [.pointer none] [] (fun (_:Unit)=>.int .i64 0) (fun _=>True) (fun _=>[]):=by
 refine kS (n:=14) Tryz.func45 J J J ?_
 intro Γ w0
 simp only [argE,Ca,Na,Zd,Nat.reduceAdd]
 refine qL (qC (.q 0 (.done)) Kr ?_)
 refine qR J J J J (qS (qQ (qL (qL (qC (.q 0 ((.l 1 [] (.q 2 (.done))))) Kr ?_)))))
 refine qK J J J J ?_
 have sp_1:=dtheren
 refine qB J J J J J J κ'23 (sp_1) Ts ?_
 rintro ⟨⟩ -
 try simp only [Ca,Na]
 refine qV (rK J J J J ?_)
 refine kF 5 J (v':=.bool true) J ?_
 refine qS (qQ (cC J ?_))
 refine qL (qC (.q 0 (.done)) Kr ?_)
 refine qR J J J J (qS (qW [2] (e':=[(2,_)]) J ?_))
 refine qQ (qJ (qN (cR J J (()) (by first | rfl | (first | rfl | (congr 1;done) | (congr 1 <;> first | rfl | omega | (simp;done) | (simp;omega)))) (by trivial) ?_)))
 exact Tf
theorem dpan (z:Int):Spec Tryz.prog 47 [.pointer none,.int .i64 z] [] (fun (_:Unit)=>.tuple #[.agg #[.int .i64 0,.int .i64 0,.int .i64 0],.bool false]) (fun _=>True) (fun _=>[]):=by
 refine kS (n:=21) Tryz.func47 J J J ?_
 intro Γ w0
 simp only [argE,Ca,Na,Zd,Nat.reduceAdd]
 refine qL (qC ((.l 0 [] (.q 1 (.done)))) Kr ?_)
 refine cY J J J ω'65 (zs:=[.int .i64 0,.int .i64 0,.int .i64 0]) J ?_
 intro b4
 refine qV (qR J J J J (qS (qQ (qL (qC (.q 0 (.q 1 ((.l 2 [] (.q 3 (.done)))))) Kr ?_)))))
 refine qK J J J J (qK J J J J ?_)
 have sp_1:=datn z
 refine qB J J J J J J κ'95 (sp_1) Ts ?_
 rintro ⟨⟩ -
 try simp only [Ca,Na]
 refine qV (qR J J J J (qS (qW [4,6] (e':=[(4,_),(6,_)]) J ?_)))
 refine qQ (qL (qL (qC (.q 0 (.q 1 (.done))) Kr ?_)))
 refine qK J J J J (cM J J J J υ'142 ?_)
 refine kF 11 J (v':=.bool true) J ?_
 refine qS (qQ (cC J ?_))
 refine qL (qC (.q 0 ((.l 1 [] (.q 2 (.done))))) Kr ?_)
 refine kB J J J J (vs:=[_,_,_]) (kQ υ'65 ω'65 (ps:=[(0,1),(1,1),(2,1)]) ⟨rfl,ζ'3,rfl,ζ'3,rfl,ζ'3,trivial⟩ rfl) ?_
 refine kR (j:=0) J J J J ζ'65 (us:=[_,_,_]) J J J Tk Az (by first | decide | (simp;done) | omega) ?_
 simp only [setL,List.set]
 refine qV (qR J J J J (qS (qW [4,5] (e':=[(4,_),(5,_)]) J ?_)))
 refine qQ (qJ (qN (retL (us:=[_,_]) J ⟨cH J α'65 ζ'65 Tk 0 J (us:=[_,_,_]) J J,sV rfl,trivial⟩ (()) (by first | rfl | (first | rfl | (congr 1;done) | (congr 1 <;> first | rfl | omega | (simp;done) | (simp;omega)))) (by trivial) ?_)))
 exact Tf
theorem dlan (z:Int):Spec Tryz.prog 49 [.pointer none,.int .i64 z] [] (fun (_:Unit)=>.tuple #[.agg #[.int .i64 0,.int .i64 0,.int .i64 0],.bool false]) (fun _=>True) (fun _=>[]):=by
 refine kS (n:=21) Tryz.func49 J J J ?_
 intro Γ w0
 simp only [argE,Ca,Na,Zd,Nat.reduceAdd]
 refine qL (qC ((.l 0 [] (.q 1 (.done)))) Kr ?_)
 refine cY J J J ω'65 (zs:=[.int .i64 0,.int .i64 0,.int .i64 0]) J ?_
 intro b4
 refine qV (qR J J J J (qS (qQ (qL (qC (.q 0 (.q 1 ((.l 2 [] (.q 3 (.done)))))) Kr ?_)))))
 refine qK J J J J (qK J J J J ?_)
 have sp_1:=datn z
 refine qB J J J J J J κ'95 (sp_1) Ts ?_
 rintro ⟨⟩ -
 try simp only [Ca,Na]
 refine qV (qR J J J J (qS (qW [4,6] (e':=[(4,_),(6,_)]) J ?_)))
 refine qQ (qL (qL (qC (.q 0 (.q 1 (.done))) Kr ?_)))
 refine qK J J J J (cM J J J J υ'142 ?_)
 refine kF 11 J (v':=.bool true) J ?_
 refine qS (qQ (cC J ?_))
 refine qL (qC (.q 0 ((.l 1 [] (.q 2 (.done))))) Kr ?_)
 refine kB J J J J (vs:=[_,_,_]) (kQ υ'65 ω'65 (ps:=[(0,1),(1,1),(2,1)]) ⟨rfl,ζ'3,rfl,ζ'3,rfl,ζ'3,trivial⟩ rfl) ?_
 refine kR (j:=0) J J J J ζ'65 (us:=[_,_,_]) J J J Tk Az (by first | decide | (simp;done) | omega) ?_
 simp only [setL,List.set]
 refine qV (qR J J J J (qS (qW [4,5] (e':=[(4,_),(5,_)]) J ?_)))
 refine qQ (qJ (qN (retL (us:=[_,_]) J ⟨cH J α'65 ζ'65 Tk 0 J (us:=[_,_,_]) J J,sV rfl,trivial⟩ (()) (by first | rfl | (first | rfl | (congr 1;done) | (congr 1 <;> first | rfl | omega | (simp;done) | (simp;omega)))) (by trivial) ?_)))
 exact Tf
theorem dlsn (z t:Int):Spec Tryz.prog 51 [.pointer none,.int .i64 z,.int .i64 t] [] (fun (_:Unit)=>.tuple #[.agg #[.int .i64 0,.int .i64 0,.int .u64 0,.int .u64 0],.int .i64 1]) (fun _=>True) (fun _=>[]):=by
 refine kS (n:=35) Tryz.func51 J J J ?_
 intro Γ w0
 simp only [argE,Ca,Na,Zd,Nat.reduceAdd]
 refine qL (qC ((.l 0 [] (.q 1 (.done)))) Kr ?_)
 refine cY J J J ω'119 (zs:=[.int .i64 0,.int .i64 0,.int .u64 0,.int .u64 0]) J ?_
 intro b6
 refine qV (qR J J J J (qS (qQ (qL (kV (qL (qC (.q 0 ((.l 1 [] (.q 2 (.q 3 (.done)))))) Kr ?_)))))))
 refine qK J J J J ?_
 have sp_1:=dtheren
 refine qB J J J J J J κ'23 (sp_1) Ts ?_
 rintro ⟨⟩ -
 try simp only [Ca,Na]
 refine qV (rK J J J J ?_)
 refine kF 11 J (v':=.bool true) J ?_
 refine qR J J J J (qS (qW [0,1,2,6,8] (e':=[(0,_),(1,_),(2,_),(6,_),(8,_)]) J ?_))
 refine qQ (cC J ?_)
 refine qL (qC (.q 0 ((.l 1 [] (.q 2 (.done))))) Kr ?_)
 refine kB J J J J (vs:=[_,_,_,_]) (kQ υ'119 ω'119 (ps:=[(0,1),(1,1),(2,1),(3,1)]) ⟨rfl,ζ'3,rfl,ζ'3,rfl,ζ'97,rfl,ζ'97,trivial⟩ rfl) ?_
 refine kR (j:=0) J J J J ζ'119 (us:=[_,_,_,_]) J J J Tk Az (by first | decide | (simp;done) | omega) ?_
 simp only [setL,List.set]
 refine qV (qR J J J J (qS (qW [6,7] (e':=[(6,_),(7,_)]) J ?_)))
 refine qQ (qJ (kH (qN (retL (us:=[_,_]) J ⟨cH J α'119 ζ'119 Tk 0 J (us:=[_,_,_,_]) J J,sV rfl,trivial⟩ (()) (by first | rfl | (first | rfl | (congr 1;done) | (congr 1 <;> first | rfl | omega | (simp;done) | (simp;omega)))) (by trivial) ?_))))
 exact Tf
theorem dagn (k t o:Int):Spec Tryz.prog 11 [.pointer none,.agg #[.int .i64 k,.int .i64 t,.int .i64 o]] [] (fun (_:Unit)=>.tuple #[.slice none 0 0,.int .i64 1]) (fun _=>True) (fun _=>[]):=by
 refine kS (n:=22) Tryz.func11 J J J ?_
 intro Γ w0
 simp only [argE,Ca,Na,Zd,Nat.reduceAdd]
 refine qL (qC ((.l 0 [] (.q 1 (.q 2 (.done))))) Kr ?_)
 refine sG J J J J (us:=[_,_,_]) J ?_
 intro b3
 refine qV (qR J J J J (qR J J J J (qS (qQ (qL (qL (qC (.q 0 ((.l 1 [] (.q 2 (.done))))) Kr ?_)))))))
 refine qK J J J J ?_
 have sp_1:=dtheren
 refine qB J J J J J J κ'23 (sp_1) Ts ?_
 rintro ⟨⟩ -
 try simp only [Ca,Na]
 refine qV (rK J J J J ?_)
 refine kF 8 J (v':=.bool true) J ?_
 refine qS (qW [0,3,8] (e':=[(0,_),(3,_),(8,_)]) J ?_)
 refine qQ (cC J ?_)
 refine qL (qC (.q 0 (.q 1 (.done))) Kr ?_)
 refine qR J J J J (qR J J J J (qS (qQ (qJ (qN (ret2 J J J (()) (by first | rfl | (first | rfl | (congr 1;done) | (congr 1 <;> first | rfl | omega | (simp;done) | (simp;omega)))) (by trivial) ?_))))))
 exact Tf
theorem dton (z:Int):Spec Tryz.prog 54 [.pointer none,.int .i64 z] [] (fun (_:Unit)=>.tuple #[.agg #[.int .i64 0,.int .i64 0,.int .i64 0],.int .i64 0,.bool false]) (fun _=>True) (fun _=>[]):=by
 refine kS (n:=30) Tryz.func54 J J J ?_
 intro Γ w0
 simp only [argE,Ca,Na,Zd,Nat.reduceAdd]
 refine qL (qC ((.l 0 [] (.q 1 (.q 2 (.done))))) Kr ?_)
 refine cY J J J ω'52 (zs:=[.int .i64 0,.int .i64 0,.int .i64 0]) J ?_
 intro b4
 refine qV (qR J J J J (qR J J J J (qS (qQ (qL (qC (.q 0 (.q 1 ((.l 2 [] (.q 3 (.done)))))) Kr ?_))))))
 refine qK J J J J (qK J J J J ?_)
 have sp_1:=datn z
 refine qB J J J J J J κ'95 (sp_1) Ts ?_
 rintro ⟨⟩ -
 try simp only [Ca,Na]
 refine qV (qR J J J J (qS (qW [4,7] (e':=[(4,_),(7,_)]) J ?_)))
 refine qQ (qL (qL (qC (.q 0 (.q 1 (.q 2 (.q 3 (.q 4 (.q 5 (.q 6 (.q 7 (.q 8 (.q 9 (.done))))))))))) Kr ?_)))
 refine qK J J J J (cM J J J J υ'142 ?_)
 refine kF 12 J (v':=.bool true) J ?_
 refine qK J J J J (qX J J J J (qX J J J J (qX J J J J (qX J J J J (qX J J J J (qX J J J J (kL J J J J J (qS ?_))))))))
 refine qW [4,7,20] (e':=[(4,_),(7,_),(20,_)]) J ?_
 refine qQ (cC J ?_)
 refine qL (qC (.q 0 ((.l 1 [] (.q 2 (.q 3 (.done)))))) Kr ?_)
 refine kB J J J J (vs:=[_,_,_]) (kQ υ'52 ω'52 (ps:=[(0,1),(1,1),(2,1)]) ⟨rfl,ζ'50,rfl,ζ'3,rfl,ζ'3,trivial⟩ rfl) ?_
 refine kR (j:=0) J J J J ζ'52 (us:=[_,_,_]) J J J Tk Az (by first | decide | (simp;done) | omega) ?_
 simp only [setL,List.set]
 refine qV (qR J J J J (qR J J J J (qS (qQ (qJ (qN (retL (us:=[_,_,_]) J ⟨cH J α'52 ζ'52 Tk 0 J (us:=[_,_,_]) J J,sV rfl,sV rfl,trivial⟩ (()) (by first | rfl | (first | rfl | (congr 1;done) | (congr 1 <;> first | rfl | omega | (simp;done) | (simp;omega)))) (by trivial) ?_)))))))
 exact Tf
theorem dcyn:Spec Tryz.prog 20 [.pointer none] [] (fun (_:Unit)=>.pointer none) (fun _=>True) (fun _=>[]):=by
 refine kS (n:=27) Tryz.func20 J J J ?_
 intro Γ w0
 simp only [argE,Ca,Na,Zd,Nat.reduceAdd]
 refine qL (qC (.q 0 (.done)) Kr ?_)
 refine qR J J J J (qS (qQ (qL (qL (qC (.q 0 ((.l 1 [] (.q 2 (.done))))) Kr ?_)))))
 refine qK J J J J ?_
 have sp_1:=dtheren
 refine qB J J J J J J κ'23 (sp_1) Ts ?_
 rintro ⟨⟩ -
 try simp only [Ca,Na]
 refine qV (rK J J J J ?_)
 refine kF 5 J (v':=.bool true) J ?_
 refine qS (qQ (cC J ?_))
 refine qL (qC (.q 0 (.done)) Kr ?_)
 refine qR J J J J (qS (qW [2] (e':=[(2,_)]) J ?_))
 refine qQ (qJ (qN (cR J J (()) (by first | rfl | (first | rfl | (congr 1;done) | (congr 1 <;> first | rfl | omega | (simp;done) | (simp;omega)))) (by trivial) ?_)))
 exact Tf
theorem dtherez (b:Nat):Spec Tryz.prog 23 [.pointer (some ⟨b,0,none⟩)] [zc b] (fun (_:Unit)=>.bool false) (fun _=>True) (fun _=>[zc b]):=by
 refine kS (n:=12) Tryz.func23 J J J ?_
 intro Γ w0
 simp only [argE,Ca,Na,Zd,Nat.reduceAdd]
 refine qL (qC (.q 0 (.done)) Kr ?_)
 refine qR J J J J (qS (qQ (qL (qC (.q 0 (.q 1 (.q 2 (.q 3 (.q 4 (.q 5 (.q 6 (.q 7 (.q 8 (.q 9 (.done))))))))))) Kr ?_))))
 refine qK J J J J (q_ne_nil J J J J υ'29 ?_)
 refine kF 4 J (v':=.bool true) J ?_
 refine qK J J J J (qK J J J J (qZ J J J J (qG (k:=0) J J J J υ'48 J ζ'44 J ?_)))
 refine qP (j:=0) J J J J α'44 Tk Az (by rfl) ?_
 refine q_ne_nil J J J J Tryz.underlying44 ?_
 refine kF 10 J (v':=.bool false) J ?_
 refine kL J J J J J (qR J J J J (qS (qW [2] (e':=[(2,_)]) J ?_)))
 refine qQ (qJ (cR J J (()) (by first | rfl | (first | rfl | (congr 1;done) | (congr 1 <;> first | rfl | omega | (simp;done) | (simp;omega)))) (by trivial) ?_))
 exact Tf
theorem datz (b:Nat) (z:Int):Spec Tryz.prog 95 [.pointer (some ⟨b,0,none⟩),.int .i64 z] [zc b] (fun (_:Unit)=>.pointer none) (fun _=>True) (fun _=>[zc b]):=by
 refine kS (n:=27) Tryz.func95 J J J ?_
 intro Γ w0
 simp only [argE,Ca,Na,Zd,Nat.reduceAdd]
 refine qL (qC (.q 0 (.done)) Kr ?_)
 refine qR J J J J (qS (qQ (qL (qL (qC (.q 0 ((.l 1 [] (.q 2 (.q 3 (.q 4 (.q 5 (.q 6 (.q 7 (.q 8 (.q 9 (.q 10 (.q 11 (.q 12 (.q 13 (.q 14 (.q 15 (.done)))))))))))))))))) Kr ?_)))))
 refine qK J J J J ?_
 have sp_1:=dtherez b
 refine qB J J J J J J κ'23 (sp_1) Ts ?_
 rintro ⟨⟩ -
 try simp only [Ca,Na]
 refine qV (rK J J J J ?_)
 refine kF 7 J (v':=.bool true) J ?_
 refine qK J J J J (qX J J J J (qX J J J J (kL J J J J J (qK J J J J (qX J J J J (qX J J J J (qX J J J J (qX J J J J ?_))))))))
 refine qX J J J J (qX J J J J (qX J J J J (kL J J J J J (qS (qW [0,1,20] (e':=[(0,_),(1,_),(20,_)]) J ?_)))))
 refine qQ (cC J ?_)
 refine qL (qC (.q 0 (.done)) Kr ?_)
 refine qR J J J J (qS (qQ (qJ (qN (cR J J (()) (by first | rfl | (first | rfl | (congr 1;done) | (congr 1 <;> first | rfl | omega | (simp;done) | (simp;omega)))) (by trivial) ?_)))))
 exact Tf
theorem devz (b:Nat) (k t o:Int):Spec Tryz.prog 15 [.pointer (some ⟨b,0,none⟩),.agg #[.int .i64 k,.int .i64 t,.int .i64 o]] [zc b] (fun (_:Unit)=>.int .i64 1) (fun _=>True) (fun _=>[zc b]):=by
 refine kS (n:=30) Tryz.func15 J J J ?_
 intro Γ w0
 simp only [argE,Ca,Na,Zd,Nat.reduceAdd]
 refine qL (qC ((.l 0 [] (.q 1 (.done)))) Kr ?_)
 refine sG J J J J (us:=[_,_,_]) J ?_
 intro b3
 refine qV (qR J J J J (qS (qQ (qL (qL (qC (.q 0 ((.l 1 [] (.q 2 (.done))))) Kr ?_))))))
 refine qK J J J J ?_
 have sp_1:=dtherez b
 refine qB J J J J J J κ'23 (sp_1) Ts ?_
 rintro ⟨⟩ -
 try simp only [Ca,Na]
 refine qV (rK J J J J ?_)
 refine kF 7 J (v':=.bool true) J ?_
 refine qS (qW [0,3,7] (e':=[(0,_),(3,_),(7,_)]) J ?_)
 refine qQ (cC J ?_)
 refine qL (qC (.q 0 (.done)) Kr ?_)
 refine qR J J J J (qS (qQ (qJ (qN (cR J J (()) (by first | rfl | (first | rfl | (congr 1;done) | (congr 1 <;> first | rfl | omega | (simp;done) | (simp;omega)))) (by trivial) ?_)))))
 exact Tf
theorem devsz (b:Nat) (so:Option Addr) (sn sc:Nat):Spec Tryz.prog 10 [.pointer (some ⟨b,0,none⟩),.slice so sn sc] [zc b] (fun (_:Unit)=>.tuple #[.int .i64 0,.int .i64 1]) (fun _=>True) (fun _=>[zc b]):=by
 refine kS (n:=29) Tryz.func10 J J J ?_
 intro Γ w0
 simp only [argE,Ca,Na,Zd,Nat.reduceAdd]
 refine qL (qC (.q 0 (.q 1 (.done))) Kr ?_)
 refine qR J J J J (qR J J J J (qS (qQ (qL (qL (qC (.q 0 ((.l 1 [] (.q 2 (.done))))) Kr ?_))))))
 refine qK J J J J ?_
 have sp_1:=dtherez b
 refine qB J J J J J J κ'23 (sp_1) Ts ?_
 rintro ⟨⟩ -
 try simp only [Ca,Na]
 refine qV (rK J J J J ?_)
 refine kF 11 J (v':=.bool true) J ?_
 refine qS (qW [0,1,11] (e':=[(0,_),(1,_),(11,_)]) J ?_)
 refine qQ (cC J ?_)
 refine qL (qC (.q 0 (.q 1 (.done))) Kr ?_)
 refine qR J J J J (qR J J J J (qS (qQ (qJ (qN (ret2 J J J (()) (by first | rfl | (first | rfl | (congr 1;done) | (congr 1 <;> first | rfl | omega | (simp;done) | (simp;omega)))) (by trivial) ?_))))))
 exact Tf
theorem dprz (b:Nat):Spec Tryz.prog 13 [.pointer (some ⟨b,0,none⟩)] [zc b] (fun (_:Unit)=>.slice none 0 0) (fun _=>True) (fun _=>[zc b]):=by
 refine kS (n:=26) Tryz.func13 J J J ?_
 intro Γ w0
 simp only [argE,Ca,Na,Zd,Nat.reduceAdd]
 refine qL (qC (.q 0 (.done)) Kr ?_)
 refine qR J J J J (qS (qQ (qL (qC (.q 0 (.done)) Kr ?_))))
 refine qR J J J J (qS (qQ (qL (qL (qC (.q 0 ((.l 1 [] (.done)))) Kr ?_)))))
 refine qK J J J J ?_
 have sp_1:=dtherez b
 refine qB J J J J J J κ'23 (sp_1) Ts ?_
 rintro ⟨⟩ -
 try simp only [Ca,Na]
 refine qV (qS (qQ (kN J ?_)))
 refine qH (qQ (qL (qC (.q 0 (.q 1 (.done))) Kr ?_)))
 refine qK J J J J (qR J J J J (qS (qW [2] (e':=[(2,_)]) J ?_)))
 refine qQ (qJ (cR J J (()) (by first | rfl | (first | rfl | (congr 1;done) | (congr 1 <;> first | rfl | omega | (simp;done) | (simp;omega)))) (by trivial) ?_))
 exact Tf
theorem dlez (b:Nat):Spec Tryz.prog 45 [.pointer (some ⟨b,0,none⟩)] [zc b] (fun (_:Unit)=>.int .i64 0) (fun _=>True) (fun _=>[zc b]):=by
 refine kS (n:=14) Tryz.func45 J J J ?_
 intro Γ w0
 simp only [argE,Ca,Na,Zd,Nat.reduceAdd]
 refine qL (qC (.q 0 (.done)) Kr ?_)
 refine qR J J J J (qS (qQ (qL (qL (qC (.q 0 ((.l 1 [] (.q 2 (.done))))) Kr ?_)))))
 refine qK J J J J ?_
 have sp_1:=dtherez b
 refine qB J J J J J J κ'23 (sp_1) Ts ?_
 rintro ⟨⟩ -
 try simp only [Ca,Na]
 refine qV (rK J J J J ?_)
 refine kF 5 J (v':=.bool true) J ?_
 refine qS (qQ (cC J ?_))
 refine qL (qC (.q 0 (.done)) Kr ?_)
 refine qR J J J J (qS (qW [2] (e':=[(2,_)]) J ?_))
 refine qQ (qJ (qN (cR J J (()) (by first | rfl | (first | rfl | (congr 1;done) | (congr 1 <;> first | rfl | omega | (simp;done) | (simp;omega)))) (by trivial) ?_)))
 exact Tf
theorem dpaz (b:Nat) (z:Int):Spec Tryz.prog 47 [.pointer (some ⟨b,0,none⟩),.int .i64 z] [zc b] (fun (_:Unit)=>.tuple #[.agg #[.int .i64 0,.int .i64 0,.int .i64 0],.bool false]) (fun _=>True) (fun _=>[zc b]):=by
 refine kS (n:=21) Tryz.func47 J J J ?_
 intro Γ w0
 simp only [argE,Ca,Na,Zd,Nat.reduceAdd]
 refine qL (qC ((.l 0 [] (.q 1 (.done)))) Kr ?_)
 refine cY J J J ω'65 (zs:=[.int .i64 0,.int .i64 0,.int .i64 0]) J ?_
 intro b4
 refine qV (qR J J J J (qS (qQ (qL (qC (.q 0 (.q 1 ((.l 2 [] (.q 3 (.done)))))) Kr ?_)))))
 refine qK J J J J (qK J J J J ?_)
 have sp_1:=datz b z
 refine qB J J J J J J κ'95 (sp_1) Ts ?_
 rintro ⟨⟩ -
 try simp only [Ca,Na]
 refine qV (qR J J J J (qS (qW [4,6] (e':=[(4,_),(6,_)]) J ?_)))
 refine qQ (qL (qL (qC (.q 0 (.q 1 (.done))) Kr ?_)))
 refine qK J J J J (cM J J J J υ'142 ?_)
 refine kF 11 J (v':=.bool true) J ?_
 refine qS (qQ (cC J ?_))
 refine qL (qC (.q 0 ((.l 1 [] (.q 2 (.done))))) Kr ?_)
 refine kB J J J J (vs:=[_,_,_]) (kQ υ'65 ω'65 (ps:=[(0,1),(1,1),(2,1)]) ⟨rfl,ζ'3,rfl,ζ'3,rfl,ζ'3,trivial⟩ rfl) ?_
 refine kR (j:=0) J J J J ζ'65 (us:=[_,_,_]) J J J Tk Az (by first | decide | (simp;done) | omega) ?_
 simp only [setL,List.set]
 refine qV (qR J J J J (qS (qW [4,5] (e':=[(4,_),(5,_)]) J ?_)))
 refine qQ (qJ (qN (retL (us:=[_,_]) J ⟨cH J α'65 ζ'65 Tk 0 J (us:=[_,_,_]) J J,sV rfl,trivial⟩ (()) (by first | rfl | (first | rfl | (congr 1;done) | (congr 1 <;> first | rfl | omega | (simp;done) | (simp;omega)))) (by trivial) ?_)))
 exact Tf
theorem dlaz (b:Nat) (z:Int):Spec Tryz.prog 49 [.pointer (some ⟨b,0,none⟩),.int .i64 z] [zc b] (fun (_:Unit)=>.tuple #[.agg #[.int .i64 0,.int .i64 0,.int .i64 0],.bool false]) (fun _=>True) (fun _=>[zc b]):=by
 refine kS (n:=21) Tryz.func49 J J J ?_
 intro Γ w0
 simp only [argE,Ca,Na,Zd,Nat.reduceAdd]
 refine qL (qC ((.l 0 [] (.q 1 (.done)))) Kr ?_)
 refine cY J J J ω'65 (zs:=[.int .i64 0,.int .i64 0,.int .i64 0]) J ?_
 intro b4
 refine qV (qR J J J J (qS (qQ (qL (qC (.q 0 (.q 1 ((.l 2 [] (.q 3 (.done)))))) Kr ?_)))))
 refine qK J J J J (qK J J J J ?_)
 have sp_1:=datz b z
 refine qB J J J J J J κ'95 (sp_1) Ts ?_
 rintro ⟨⟩ -
 try simp only [Ca,Na]
 refine qV (qR J J J J (qS (qW [4,6] (e':=[(4,_),(6,_)]) J ?_)))
 refine qQ (qL (qL (qC (.q 0 (.q 1 (.done))) Kr ?_)))
 refine qK J J J J (cM J J J J υ'142 ?_)
 refine kF 11 J (v':=.bool true) J ?_
 refine qS (qQ (cC J ?_))
 refine qL (qC (.q 0 ((.l 1 [] (.q 2 (.done))))) Kr ?_)
 refine kB J J J J (vs:=[_,_,_]) (kQ υ'65 ω'65 (ps:=[(0,1),(1,1),(2,1)]) ⟨rfl,ζ'3,rfl,ζ'3,rfl,ζ'3,trivial⟩ rfl) ?_
 refine kR (j:=0) J J J J ζ'65 (us:=[_,_,_]) J J J Tk Az (by first | decide | (simp;done) | omega) ?_
 simp only [setL,List.set]
 refine qV (qR J J J J (qS (qW [4,5] (e':=[(4,_),(5,_)]) J ?_)))
 refine qQ (qJ (qN (retL (us:=[_,_]) J ⟨cH J α'65 ζ'65 Tk 0 J (us:=[_,_,_]) J J,sV rfl,trivial⟩ (()) (by first | rfl | (first | rfl | (congr 1;done) | (congr 1 <;> first | rfl | omega | (simp;done) | (simp;omega)))) (by trivial) ?_)))
 exact Tf
theorem dlsz (b:Nat) (z t:Int):Spec Tryz.prog 51 [.pointer (some ⟨b,0,none⟩),.int .i64 z,.int .i64 t] [zc b] (fun (_:Unit)=>.tuple #[.agg #[.int .i64 0,.int .i64 0,.int .u64 0,.int .u64 0],.int .i64 1]) (fun _=>True) (fun _=>[zc b]):=by
 refine kS (n:=35) Tryz.func51 J J J ?_
 intro Γ w0
 simp only [argE,Ca,Na,Zd,Nat.reduceAdd]
 refine qL (qC ((.l 0 [] (.q 1 (.done)))) Kr ?_)
 refine cY J J J ω'119 (zs:=[.int .i64 0,.int .i64 0,.int .u64 0,.int .u64 0]) J ?_
 intro b6
 refine qV (qR J J J J (qS (qQ (qL (kV (qL (qC (.q 0 ((.l 1 [] (.q 2 (.q 3 (.done)))))) Kr ?_)))))))
 refine qK J J J J ?_
 have sp_1:=dtherez b
 refine qB J J J J J J κ'23 (sp_1) Ts ?_
 rintro ⟨⟩ -
 try simp only [Ca,Na]
 refine qV (rK J J J J ?_)
 refine kF 11 J (v':=.bool true) J ?_
 refine qR J J J J (qS (qW [0,1,2,6,8] (e':=[(0,_),(1,_),(2,_),(6,_),(8,_)]) J ?_))
 refine qQ (cC J ?_)
 refine qL (qC (.q 0 ((.l 1 [] (.q 2 (.done))))) Kr ?_)
 refine kB J J J J (vs:=[_,_,_,_]) (kQ υ'119 ω'119 (ps:=[(0,1),(1,1),(2,1),(3,1)]) ⟨rfl,ζ'3,rfl,ζ'3,rfl,ζ'97,rfl,ζ'97,trivial⟩ rfl) ?_
 refine kR (j:=0) J J J J ζ'119 (us:=[_,_,_,_]) J J J Tk Az (by first | decide | (simp;done) | omega) ?_
 simp only [setL,List.set]
 refine qV (qR J J J J (qS (qW [6,7] (e':=[(6,_),(7,_)]) J ?_)))
 refine qQ (qJ (kH (qN (retL (us:=[_,_]) J ⟨cH J α'119 ζ'119 Tk 0 J (us:=[_,_,_,_]) J J,sV rfl,trivial⟩ (()) (by first | rfl | (first | rfl | (congr 1;done) | (congr 1 <;> first | rfl | omega | (simp;done) | (simp;omega)))) (by trivial) ?_))))
 exact Tf
theorem dagz (b:Nat) (k t o:Int):Spec Tryz.prog 11 [.pointer (some ⟨b,0,none⟩),.agg #[.int .i64 k,.int .i64 t,.int .i64 o]] [zc b] (fun (_:Unit)=>.tuple #[.slice none 0 0,.int .i64 1]) (fun _=>True) (fun _=>[zc b]):=by
 refine kS (n:=22) Tryz.func11 J J J ?_
 intro Γ w0
 simp only [argE,Ca,Na,Zd,Nat.reduceAdd]
 refine qL (qC ((.l 0 [] (.q 1 (.q 2 (.done))))) Kr ?_)
 refine sG J J J J (us:=[_,_,_]) J ?_
 intro b3
 refine qV (qR J J J J (qR J J J J (qS (qQ (qL (qL (qC (.q 0 ((.l 1 [] (.q 2 (.done))))) Kr ?_)))))))
 refine qK J J J J ?_
 have sp_1:=dtherez b
 refine qB J J J J J J κ'23 (sp_1) Ts ?_
 rintro ⟨⟩ -
 try simp only [Ca,Na]
 refine qV (rK J J J J ?_)
 refine kF 8 J (v':=.bool true) J ?_
 refine qS (qW [0,3,8] (e':=[(0,_),(3,_),(8,_)]) J ?_)
 refine qQ (cC J ?_)
 refine qL (qC (.q 0 (.q 1 (.done))) Kr ?_)
 refine qR J J J J (qR J J J J (qS (qQ (qJ (qN (ret2 J J J (()) (by first | rfl | (first | rfl | (congr 1;done) | (congr 1 <;> first | rfl | omega | (simp;done) | (simp;omega)))) (by trivial) ?_))))))
 exact Tf
theorem dtoz (b:Nat) (z:Int):Spec Tryz.prog 54 [.pointer (some ⟨b,0,none⟩),.int .i64 z] [zc b] (fun (_:Unit)=>.tuple #[.agg #[.int .i64 0,.int .i64 0,.int .i64 0],.int .i64 0,.bool false]) (fun _=>True) (fun _=>[zc b]):=by
 refine kS (n:=30) Tryz.func54 J J J ?_
 intro Γ w0
 simp only [argE,Ca,Na,Zd,Nat.reduceAdd]
 refine qL (qC ((.l 0 [] (.q 1 (.q 2 (.done))))) Kr ?_)
 refine cY J J J ω'52 (zs:=[.int .i64 0,.int .i64 0,.int .i64 0]) J ?_
 intro b4
 refine qV (qR J J J J (qR J J J J (qS (qQ (qL (qC (.q 0 (.q 1 ((.l 2 [] (.q 3 (.done)))))) Kr ?_))))))
 refine qK J J J J (qK J J J J ?_)
 have sp_1:=datz b z
 refine qB J J J J J J κ'95 (sp_1) Ts ?_
 rintro ⟨⟩ -
 try simp only [Ca,Na]
 refine qV (qR J J J J (qS (qW [4,7] (e':=[(4,_),(7,_)]) J ?_)))
 refine qQ (qL (qL (qC (.q 0 (.q 1 (.q 2 (.q 3 (.q 4 (.q 5 (.q 6 (.q 7 (.q 8 (.q 9 (.done))))))))))) Kr ?_)))
 refine qK J J J J (cM J J J J υ'142 ?_)
 refine kF 12 J (v':=.bool true) J ?_
 refine qK J J J J (qX J J J J (qX J J J J (qX J J J J (qX J J J J (qX J J J J (qX J J J J (kL J J J J J (qS ?_))))))))
 refine qW [4,7,20] (e':=[(4,_),(7,_),(20,_)]) J ?_
 refine qQ (cC J ?_)
 refine qL (qC (.q 0 ((.l 1 [] (.q 2 (.q 3 (.done)))))) Kr ?_)
 refine kB J J J J (vs:=[_,_,_]) (kQ υ'52 ω'52 (ps:=[(0,1),(1,1),(2,1)]) ⟨rfl,ζ'50,rfl,ζ'3,rfl,ζ'3,trivial⟩ rfl) ?_
 refine kR (j:=0) J J J J ζ'52 (us:=[_,_,_]) J J J Tk Az (by first | decide | (simp;done) | omega) ?_
 simp only [setL,List.set]
 refine qV (qR J J J J (qR J J J J (qS (qQ (qJ (qN (retL (us:=[_,_,_]) J ⟨cH J α'52 ζ'52 Tk 0 J (us:=[_,_,_]) J J,sV rfl,sV rfl,trivial⟩ (()) (by first | rfl | (first | rfl | (congr 1;done) | (congr 1 <;> first | rfl | omega | (simp;done) | (simp;omega)))) (by trivial) ?_)))))))
 exact Tf
theorem dcyz (b:Nat):Spec Tryz.prog 20 [.pointer (some ⟨b,0,none⟩)] [zc b] (fun (_:Unit)=>.pointer none) (fun _=>True) (fun _=>[zc b]):=by
 refine kS (n:=27) Tryz.func20 J J J ?_
 intro Γ w0
 simp only [argE,Ca,Na,Zd,Nat.reduceAdd]
 refine qL (qC (.q 0 (.done)) Kr ?_)
 refine qR J J J J (qS (qQ (qL (qL (qC (.q 0 ((.l 1 [] (.q 2 (.done))))) Kr ?_)))))
 refine qK J J J J ?_
 have sp_1:=dtherez b
 refine qB J J J J J J κ'23 (sp_1) Ts ?_
 rintro ⟨⟩ -
 try simp only [Ca,Na]
 refine qV (rK J J J J ?_)
 refine kF 5 J (v':=.bool true) J ?_
 refine qS (qQ (cC J ?_))
 refine qL (qC (.q 0 (.done)) Kr ?_)
 refine qR J J J J (qS (qW [2] (e':=[(2,_)]) J ?_))
 refine qQ (qJ (qN (cR J J (()) (by first | rfl | (first | rfl | (congr 1;done) | (congr 1 <;> first | rfl | omega | (simp;done) | (simp;omega)))) (by trivial) ?_)))
 exact Tf
theorem revn (k t o:Int):Spec Tryz.prog 18 [.pointer none,.agg #[.int .i64 k,.int .i64 t,.int .i64 o]] [] (fun (_:Unit)=>.int .i64 1) (fun _=>True) (fun _=>[]):=by
 refine kS (n:=94) Tryz.func18 J J J ?_
 intro Γ w0
 simp only [argE,Ca,Na,Zd,Nat.reduceAdd]
 refine qL (qC ((.l 0 [] (.q 1 (.done)))) Kr ?_)
 refine sG J J J J (us:=[_,_,_]) J ?_
 intro b3
 refine qV (qR J J J J (qS (qQ (qL (qL (qC (.q 0 (.q 1 (.done))) Kr ?_))))))
 refine qK J J J J (cM J J J J υ'33 ?_)
 refine kF 9 J (v':=.bool true) J ?_
 refine qS (qQ (cC J ?_))
 refine qL (qC (.q 0 (.done)) Kr ?_)
 refine qR J J J J (qS (qW [4] (e':=[(4,_)]) J ?_))
 refine qQ (qJ (qN (cR J J (()) (by first | rfl | (first | rfl | (congr 1;done) | (congr 1 <;> first | rfl | omega | (simp;done) | (simp;omega)))) (by trivial) ?_)))
 exact Tf
theorem revsn (so:Option Addr) (sn sc:Nat):Spec Tryz.prog 19 [.pointer none,.slice so sn sc] [] (fun (_:Unit)=>.tuple #[.int .i64 0,.int .i64 1]) (fun _=>True) (fun _=>[]):=by
 refine kS (n:=28) Tryz.func19 J J J ?_
 intro Γ w0
 simp only [argE,Ca,Na,Zd,Nat.reduceAdd]
 refine qL (qC (.q 0 (.q 1 (.done))) Kr ?_)
 refine qR J J J J (qR J J J J (qS (qQ (qL (qL (qC (.q 0 (.q 1 (.done))) Kr ?_))))))
 refine qK J J J J (cM J J J J υ'33 ?_)
 refine kF 9 J (v':=.bool true) J ?_
 refine qS (qQ (cC J ?_))
 refine qL (qC (.q 0 (.q 1 (.done))) Kr ?_)
 refine qR J J J J (qR J J J J (qS (qW [4,5] (e':=[(4,_),(5,_)]) J ?_)))
 refine qQ (qJ (qN (ret2 J J J (()) (by first | rfl | (first | rfl | (congr 1;done) | (congr 1 <;> first | rfl | omega | (simp;done) | (simp;omega)))) (by trivial) ?_)))
 exact Tf
theorem rprn:Spec Tryz.prog 44 [.pointer none] [] (fun (_:Unit)=>.slice none 0 0) (fun _=>True) (fun _=>[]):=by
 refine kS (n:=37) Tryz.func44 J J J ?_
 intro Γ w0
 simp only [argE,Ca,Na,Zd,Nat.reduceAdd]
 refine qL (qC (.q 0 (.done)) Kr ?_)
 refine qR J J J J (qS (qQ (qL (qC (.q 0 (.done)) Kr ?_))))
 refine qR J J J J (qS (qQ (qL (qL (qC (.q 0 (.q 1 (.done))) Kr ?_)))))
 refine qK J J J J (cM J J J J υ'33 ?_)
 refine kF 6 J (v':=.bool true) J ?_
 refine qS (qQ (cC J ?_))
 refine qL (qC (.q 0 (.q 1 (.done))) Kr ?_)
 refine qK J J J J (qR J J J J (qS (qW [2] (e':=[(2,_)]) J ?_)))
 refine qQ (qJ (qN (cR J J (()) (by first | rfl | (first | rfl | (congr 1;done) | (congr 1 <;> first | rfl | omega | (simp;done) | (simp;omega)))) (by trivial) ?_)))
 exact Tf
theorem rlen:Spec Tryz.prog 46 [.pointer none] [] (fun (_:Unit)=>.int .i64 0) (fun _=>True) (fun _=>[]):=by
 refine kS (n:=13) Tryz.func46 J J J ?_
 intro Γ w0
 simp only [argE,Ca,Na,Zd,Nat.reduceAdd]
 refine qL (qC (.q 0 (.done)) Kr ?_)
 refine qR J J J J (qS (qQ (qL (qL (qC (.q 0 (.q 1 (.done))) Kr ?_)))))
 refine qK J J J J (cM J J J J υ'33 ?_)
 refine kF 4 J (v':=.bool true) J ?_
 refine qS (qQ (cC J ?_))
 refine qL (qC (.q 0 (.done)) Kr ?_)
 refine qR J J J J (qS (qQ (qJ (qN (cR J J (()) (by first | rfl | (first | rfl | (congr 1;done) | (congr 1 <;> first | rfl | omega | (simp;done) | (simp;omega)))) (by trivial) ?_)))))
 exact Tf
theorem rpan (z:Int):Spec Tryz.prog 48 [.pointer none,.int .i64 z] [] (fun (_:Unit)=>.tuple #[.agg #[.int .i64 0,.int .i64 0,.int .i64 0],.bool false]) (fun _=>True) (fun _=>[]):=by
 refine kS (n:=17) Tryz.func48 J J J ?_
 intro Γ w0
 simp only [argE,Ca,Na,Zd,Nat.reduceAdd]
 refine qL (qC ((.l 0 [] (.q 1 (.done)))) Kr ?_)
 refine cY J J J ω'65 (zs:=[.int .i64 0,.int .i64 0,.int .i64 0]) J ?_
 intro b4
 refine qV (qR J J J J (qS (qQ (qL (qL (qC (.q 0 (.q 1 (.done))) Kr ?_))))))
 refine qK J J J J (cM J J J J υ'33 ?_)
 refine kF 7 J (v':=.bool true) J ?_
 refine qS (qQ (cC J ?_))
 refine qL (qC (.q 0 ((.l 1 [] (.q 2 (.done))))) Kr ?_)
 refine kB J J J J (vs:=[_,_,_]) (kQ υ'65 ω'65 (ps:=[(0,1),(1,1),(2,1)]) ⟨rfl,ζ'3,rfl,ζ'3,rfl,ζ'3,trivial⟩ rfl) ?_
 refine kR (j:=0) J J J J ζ'65 (us:=[_,_,_]) J J J Tk Az (by first | decide | (simp;done) | omega) ?_
 simp only [setL,List.set]
 refine qV (qR J J J J (qS (qW [4,5] (e':=[(4,_),(5,_)]) J ?_)))
 refine qQ (qJ (qN (retL (us:=[_,_]) J ⟨cH J α'65 ζ'65 Tk 0 J (us:=[_,_,_]) J J,sV rfl,trivial⟩ (()) (by first | rfl | (first | rfl | (congr 1;done) | (congr 1 <;> first | rfl | omega | (simp;done) | (simp;omega)))) (by trivial) ?_)))
 exact Tf
theorem rlan (z:Int):Spec Tryz.prog 50 [.pointer none,.int .i64 z] [] (fun (_:Unit)=>.tuple #[.agg #[.int .i64 0,.int .i64 0,.int .i64 0],.bool false]) (fun _=>True) (fun _=>[]):=by
 refine kS (n:=17) Tryz.func50 J J J ?_
 intro Γ w0
 simp only [argE,Ca,Na,Zd,Nat.reduceAdd]
 refine qL (qC ((.l 0 [] (.q 1 (.done)))) Kr ?_)
 refine cY J J J ω'65 (zs:=[.int .i64 0,.int .i64 0,.int .i64 0]) J ?_
 intro b4
 refine qV (qR J J J J (qS (qQ (qL (qL (qC (.q 0 (.q 1 (.done))) Kr ?_))))))
 refine qK J J J J (cM J J J J υ'33 ?_)
 refine kF 7 J (v':=.bool true) J ?_
 refine qS (qQ (cC J ?_))
 refine qL (qC (.q 0 ((.l 1 [] (.q 2 (.done))))) Kr ?_)
 refine kB J J J J (vs:=[_,_,_]) (kQ υ'65 ω'65 (ps:=[(0,1),(1,1),(2,1)]) ⟨rfl,ζ'3,rfl,ζ'3,rfl,ζ'3,trivial⟩ rfl) ?_
 refine kR (j:=0) J J J J ζ'65 (us:=[_,_,_]) J J J Tk Az (by first | decide | (simp;done) | omega) ?_
 simp only [setL,List.set]
 refine qV (qR J J J J (qS (qW [4,5] (e':=[(4,_),(5,_)]) J ?_)))
 refine qQ (qJ (qN (retL (us:=[_,_]) J ⟨cH J α'65 ζ'65 Tk 0 J (us:=[_,_,_]) J J,sV rfl,trivial⟩ (()) (by first | rfl | (first | rfl | (congr 1;done) | (congr 1 <;> first | rfl | omega | (simp;done) | (simp;omega)))) (by trivial) ?_)))
 exact Tf
theorem rlsn (z t:Int):Spec Tryz.prog 52 [.pointer none,.int .i64 z,.int .i64 t] [] (fun (_:Unit)=>.tuple #[.agg #[.int .i64 0,.int .i64 0,.int .u64 0,.int .u64 0],.int .i64 1]) (fun _=>True) (fun _=>[]):=by
 refine kS (n:=88) Tryz.func52 J J J ?_
 intro Γ w0
 simp only [argE,Ca,Na,Zd,Nat.reduceAdd]
 refine qL (qC ((.l 0 [] (.q 1 (.done)))) Kr ?_)
 refine cY J J J ω'119 (zs:=[.int .i64 0,.int .i64 0,.int .u64 0,.int .u64 0]) J ?_
 intro b6
 refine qV (qR J J J J (qS (qQ (qL (qL (qC (.q 0 (.q 1 (.done))) Kr ?_))))))
 refine qK J J J J (cM J J J J υ'33 ?_)
 refine kF 11 J (v':=.bool true) J ?_
 refine qS (qQ (cC J ?_))
 refine qL (qC (.q 0 ((.l 1 [] (.q 2 (.done))))) Kr ?_)
 refine kB J J J J (vs:=[_,_,_,_]) (kQ υ'119 ω'119 (ps:=[(0,1),(1,1),(2,1),(3,1)]) ⟨rfl,ζ'3,rfl,ζ'3,rfl,ζ'97,rfl,ζ'97,trivial⟩ rfl) ?_
 refine kR (j:=0) J J J J ζ'119 (us:=[_,_,_,_]) J J J Tk Az (by first | decide | (simp;done) | omega) ?_
 simp only [setL,List.set]
 refine qV (qR J J J J (qS (qW [6,7] (e':=[(6,_),(7,_)]) J ?_)))
 refine qQ (qJ (qN (retL (us:=[_,_]) J ⟨cH J α'119 ζ'119 Tk 0 J (us:=[_,_,_,_]) J J,sV rfl,trivial⟩ (()) (by first | rfl | (first | rfl | (congr 1;done) | (congr 1 <;> first | rfl | omega | (simp;done) | (simp;omega)))) (by trivial) ?_)))
 exact Tf
theorem ragn (k t o:Int):Spec Tryz.prog 53 [.pointer none,.agg #[.int .i64 k,.int .i64 t,.int .i64 o]] [] (fun (_:Unit)=>.tuple #[.slice none 0 0,.int .i64 1]) (fun _=>True) (fun _=>[]):=by
 refine kS (n:=21) Tryz.func53 J J J ?_
 intro Γ w0
 simp only [argE,Ca,Na,Zd,Nat.reduceAdd]
 refine qL (qC ((.l 0 [] (.q 1 (.q 2 (.done))))) Kr ?_)
 refine sG J J J J (us:=[_,_,_]) J ?_
 intro b3
 refine qV (qR J J J J (qR J J J J (qS (qQ (qL (qL (qC (.q 0 (.q 1 (.done))) Kr ?_)))))))
 refine qK J J J J (cM J J J J υ'33 ?_)
 refine kF 7 J (v':=.bool true) J ?_
 refine qS (qW [0,3,7] (e':=[(0,_),(3,_),(7,_)]) J ?_)
 refine qQ (cC J ?_)
 refine qL (qC (.q 0 (.q 1 (.done))) Kr ?_)
 refine qR J J J J (qR J J J J (qS (qQ (qJ (qN (ret2 J J J (()) (by first | rfl | (first | rfl | (congr 1;done) | (congr 1 <;> first | rfl | omega | (simp;done) | (simp;omega)))) (by trivial) ?_))))))
 exact Tf
theorem rton (z:Int):Spec Tryz.prog 55 [.pointer none,.int .i64 z] [] (fun (_:Unit)=>.tuple #[.agg #[.int .i64 0,.int .i64 0,.int .i64 0],.int .i64 0,.bool false]) (fun _=>True) (fun _=>[]):=by
 refine kS (n:=49) Tryz.func55 J J J ?_
 intro Γ w0
 simp only [argE,Ca,Na,Zd,Nat.reduceAdd]
 refine qL (qC ((.l 0 [] (.q 1 (.q 2 (.done))))) Kr ?_)
 refine cY J J J ω'52 (zs:=[.int .i64 0,.int .i64 0,.int .i64 0]) J ?_
 intro b4
 refine qV (qR J J J J (qR J J J J (qS (qQ (qL (qL (qC (.q 0 (.q 1 (.done))) Kr ?_)))))))
 refine qK J J J J (cM J J J J υ'33 ?_)
 refine kF 9 J (v':=.bool true) J ?_
 refine qS (qQ (cC J ?_))
 refine qL (qC (.q 0 ((.l 1 [] (.q 2 (.q 3 (.done)))))) Kr ?_)
 refine kB J J J J (vs:=[_,_,_]) (kQ υ'52 ω'52 (ps:=[(0,1),(1,1),(2,1)]) ⟨rfl,ζ'50,rfl,ζ'3,rfl,ζ'3,trivial⟩ rfl) ?_
 refine kR (j:=0) J J J J ζ'52 (us:=[_,_,_]) J J J Tk Az (by first | decide | (simp;done) | omega) ?_
 simp only [setL,List.set]
 refine qV (qR J J J J (qR J J J J (qS (qW [4,5,6] (e':=[(4,_),(5,_),(6,_)]) J ?_))))
 refine qQ (qJ (qN (retL (us:=[_,_,_]) J ⟨cH J α'52 ζ'52 Tk 0 J (us:=[_,_,_]) J J,sV rfl,sV rfl,trivial⟩ (()) (by first | rfl | (first | rfl | (congr 1;done) | (congr 1 <;> first | rfl | omega | (simp;done) | (simp;omega)))) (by trivial) ?_)))
 exact Tf
theorem rcyn:Spec Tryz.prog 21 [.pointer none] [] (fun (_:Unit)=>.pointer none) (fun _=>True) (fun _=>[]):=by
 refine kS (n:=34) Tryz.func21 J J J ?_
 intro Γ w0
 simp only [argE,Ca,Na,Zd,Nat.reduceAdd]
 refine qL (qC (.q 0 (.done)) Kr ?_)
 refine qR J J J J (qS (qQ (qL (qL (qC (.q 0 (.q 1 (.done))) Kr ?_)))))
 refine qK J J J J (cM J J J J υ'33 ?_)
 refine kF 4 J (v':=.bool true) J ?_
 refine qS (qQ (cC J ?_))
 refine qL (qC (.q 0 (.done)) Kr ?_)
 refine qR J J J J (qS (qQ (qJ (qN (cR J J (()) (by first | rfl | (first | rfl | (congr 1;done) | (congr 1 <;> first | rfl | omega | (simp;done) | (simp;omega)))) (by trivial) ?_)))))
 exact Tf
theorem own_ev (pa:Option Addr) (pc:Nat) (po:Option Addr) (poc:Nat) (o:Option Addr) (m:Option HA) (pl:List Int) (N:Int) (hN:N≤1900000000000) (hm:SOk pl N m) (k t u:Int):Spec Tryz.prog 15 [.pointer o,.agg #[.int .i64 k,.int .i64 t,.int .i64 u]] [ownP pa pc po poc o m,own 1 encZ pa pc pl,own 1 encZ po poc pl] (fun (_:Unit)=>.int .i64 (sE m k t u)) (fun _=>True) (fun _=>[ownP pa pc po poc o (m.map fun x=>hE2 x k t u),own 1 encZ pa pc pl,own 1 encZ po poc pl]):=by
  refine own_up (fun _=>m.map fun x=>hE2 x k t u) () _ (devn k t u) (fun b=>devz b k t u) (fun h=>⟨by subst h;rfl,trivial,by subst h;rfl,by subst h;exact fun Γ h s=>s⟩) (fun x hx=>?_)
  obtain ⟨h1,h2,h3,h4⟩:=hm x hx
  subst hx
  exact ⟨fun _=>hE2 x k t u,fun _=>rfl,fun b _=>Hi.event_spec pa pc po poc b x.1 h1 Om pl h3 k t u⟩
theorem own_pr (pa:Option Addr) (pc:Nat) (po:Option Addr) (poc:Nat) (o:Option Addr) (m:Option HA) (pl:List Int) (N:Int) (hN:N≤1900000000000) (hm:SOk pl N m):Spec Tryz.prog 13 [.pointer o] [ownP pa pc po poc o m] (fun (r:Option Addr × Nat)=>.slice r.1 (sPr m).length r.2) (fun r=>True) (fun r=>[ownP pa pc po poc o m,own 3 enc3 r.1 r.2 (sPr m)]):=by
  refine own_up (fun _=>m) (none,0) _ (dprn ) (fun b=>dprz b ) (fun h=>⟨by subst h;rfl,trivial,by subst h;rfl,by subst h;exact fun Γ h s=>sY (sz:=3) (enc:=enc3) s⟩) (fun x hx=>?_)
  obtain ⟨h1,h2,h3,h4⟩:=hm x hx
  subst hx
  exact ⟨fun _=>x,fun _=>rfl,fun b _=>Hi.pairs_spec pa pc po poc b x.1 h1⟩
theorem own_le (pa:Option Addr) (pc:Nat) (po:Option Addr) (poc:Nat) (o:Option Addr) (m:Option HA) (pl:List Int) (N:Int) (hN:N≤1900000000000) (hm:SOk pl N m):Spec Tryz.prog 45 [.pointer o] [ownP pa pc po poc o m] (fun (_:Unit)=>.int .i64 (sN m)) (fun _=>True) (fun _=>[ownP pa pc po poc o m]):=by
  refine own_up (fun _=>m) () _ (dlen ) (fun b=>dlez b ) (fun h=>⟨by subst h;rfl,trivial,by subst h;rfl,by subst h;exact fun Γ h s=>s⟩) (fun x hx=>?_)
  obtain ⟨h1,h2,h3,h4⟩:=hm x hx
  subst hx
  exact ⟨fun _=>x,fun _=>rfl,fun b _=>Hi.len_spec pa pc po poc b x.1 h1⟩
theorem own_pa (pa:Option Addr) (pc:Nat) (po:Option Addr) (poc:Nat) (o:Option Addr) (m:Option HA) (pl:List Int) (N:Int) (hN:N≤1900000000000) (hm:SOk pl N m) (z:Int):Spec Tryz.prog 47 [.pointer o,.int .i64 z] [ownP pa pc po poc o m] (fun (_:Unit)=>.tuple #[.agg #[.int .i64 (sW m z).1.1,.int .i64 (sW m z).1.2.1,.int .i64 (sW m z).1.2.2],.bool (sW m z).2.2.1]) (fun _=>True) (fun _=>[ownP pa pc po poc o m]):=by
  refine own_up (fun _=>m) () _ (dpan z) (fun b=>dpaz b z) (fun h=>⟨by subst h;rfl,trivial,by subst h;rfl,by subst h;exact fun Γ h s=>s⟩) (fun x hx=>?_)
  obtain ⟨h1,h2,h3,h4⟩:=hm x hx
  subst hx
  exact ⟨fun _=>x,fun _=>rfl,fun b _=>hpair_spec pa pc po poc b x.1 h1 z⟩
theorem own_la (pa:Option Addr) (pc:Nat) (po:Option Addr) (poc:Nat) (o:Option Addr) (m:Option HA) (pl:List Int) (N:Int) (hN:N≤1900000000000) (hm:SOk pl N m) (z:Int):Spec Tryz.prog 49 [.pointer o,.int .i64 z] [ownP pa pc po poc o m] (fun (_:Unit)=>.tuple #[.agg #[.int .i64 (sW m z).2.1.1,.int .i64 (sW m z).2.1.2.1,.int .i64 (sW m z).2.1.2.2],.bool (sW m z).2.2.1]) (fun _=>True) (fun _=>[ownP pa pc po poc o m]):=by
  refine own_up (fun _=>m) () _ (dlan z) (fun b=>dlaz b z) (fun h=>⟨by subst h;rfl,trivial,by subst h;rfl,by subst h;exact fun Γ h s=>s⟩) (fun x hx=>?_)
  obtain ⟨h1,h2,h3,h4⟩:=hm x hx
  subst hx
  exact ⟨fun _=>x,fun _=>rfl,fun b _=>hlatest_spec pa pc po poc b x.1 h1 z⟩
theorem own_to (pa:Option Addr) (pc:Nat) (po:Option Addr) (poc:Nat) (o:Option Addr) (m:Option HA) (pl:List Int) (N:Int) (hN:N≤1900000000000) (hm:SOk pl N m) (z:Int):Spec Tryz.prog 54 [.pointer o,.int .i64 z] [ownP pa pc po poc o m] (fun (_:Unit)=>.tuple #[.agg #[.int .i64 (sW m z).2.2.2.1.1,.int .i64 (sW m z).2.2.2.1.2.1,.int .i64 (sW m z).2.2.2.1.2.2],.int .i64 (sW m z).2.2.2.2,.bool (decide ((sW m z).2.2.2.1.1≠0))]) (fun _=>True) (fun _=>[ownP pa pc po poc o m]):=by
  refine own_up (fun _=>m) () _ (dton z) (fun b=>dtoz b z) (fun h=>⟨by subst h;rfl,trivial,by subst h;rfl,by subst h;exact fun Γ h s=>s⟩) (fun x hx=>?_)
  obtain ⟨h1,h2,h3,h4⟩:=hm x hx
  subst hx
  exact ⟨fun _=>x,fun _=>rfl,fun b _=>htou_spec pa pc po poc b x.1 h1 x.2 h2 z⟩
theorem own_ls (pa:Option Addr) (pc:Nat) (po:Option Addr) (poc:Nat) (o:Option Addr) (m:Option HA) (pl:List Int) (N:Int) (hN:N≤1900000000000) (hm:SOk pl N m) (z t:Int):Spec Tryz.prog 51 [.pointer o,.int .i64 z,.int .i64 t] [ownP pa pc po poc o m] (fun (_:Unit)=>.tuple #[evT (sLs m z t),.int .i64 (sLe m z t)]) (fun _=>True) (fun _=>[ownP pa pc po poc o m]):=by
  refine own_up (fun _=>m) () _ (dlsn z t) (fun b=>dlsz b z t) (fun h=>⟨by subst h;rfl,trivial,by subst h;rfl,by subst h;exact fun Γ h s=>s⟩) (fun x hx=>?_)
  obtain ⟨h1,h2,h3,h4⟩:=hm x hx
  subst hx
  exact ⟨fun _=>x,fun _=>rfl,fun b _=>hlast_spec pa pc po poc b x.1 h1 t z⟩
theorem own_ag (pa:Option Addr) (pc:Nat) (po:Option Addr) (poc:Nat) (o:Option Addr) (m:Option HA) (pl:List Int) (N:Int) (hN:N≤1900000000000) (hm:SOk pl N m) (k t u:Int):Spec Tryz.prog 11 [.pointer o,.agg #[.int .i64 k,.int .i64 t,.int .i64 u]] [ownP pa pc po poc o m] (fun (r:Option Addr × Nat)=>.tuple #[.slice r.1 (sAg m k t u).length r.2,.int .i64 (sAe m k t u)]) (fun r=>True) (fun r=>[ownP pa pc po poc o m,own 1 encZ r.1 r.2 (sAg m k t u)]):=by
  refine own_up (fun _=>m) (none,0) _ (dagn k t u) (fun b=>dagz b k t u) (fun h=>⟨by subst h;rfl,trivial,by subst h;rfl,by subst h;exact fun Γ h s=>sY (sz:=1) (enc:=encZ) s⟩) (fun x hx=>?_)
  obtain ⟨h1,h2,h3,h4⟩:=hm x hx
  subst hx
  exact ⟨fun _=>x,fun _=>rfl,fun b _=>Hi.againstq_spec pa pc po poc b x.1 h1 Om k t u⟩
theorem ref_ev (ra:Option Addr) (rc:Nat) (o:Option Addr) (m:Option HA) (pl:List Int) (N:Int) (hN:N≤1900000000000) (hm:SOk pl N m) (k t u:Int):Spec Tryz.prog 18 [.pointer o,.agg #[.int .i64 k,.int .i64 t,.int .i64 u]] [refP ra rc o m,own 1 encZ ra rc pl] (fun (_:Unit)=>.int .i64 (sE m k t u)) (fun _=>True) (fun _=>[refP ra rc o (m.map fun x=>hE2 x k t u),own 1 encZ ra rc pl]):=by
  refine ref_up (fun _=>m.map fun x=>hE2 x k t u) () _ (revn k t u) (fun h=>⟨by subst h;rfl,trivial,by subst h;rfl,by subst h;exact fun Γ h s=>s⟩) (fun x hx=>?_)
  obtain ⟨h1,h2,h3,h4⟩:=hm x hx
  subst hx
  exact ⟨fun _=>hE2 x k t u,fun _=>rfl,fun b _=>rev_spec ra rc b x.1 h1 x.2 h2 Om pl h3 k t u⟩
theorem ref_pr (ra:Option Addr) (rc:Nat) (o:Option Addr) (m:Option HA) (pl:List Int) (N:Int) (hN:N≤1900000000000) (hm:SOk pl N m):Spec Tryz.prog 44 [.pointer o] [refP ra rc o m] (fun (r:Option Addr × Nat)=>.slice r.1 (sPr m).length r.2) (fun r=>True) (fun r=>[refP ra rc o m,own 3 enc3 r.1 r.2 (sPr m)]):=by
  refine ref_up (fun _=>m) (none,0) _ (rprn ) (fun h=>⟨by subst h;rfl,trivial,by subst h;rfl,by subst h;exact fun Γ h s=>sY (sz:=3) (enc:=enc3) s⟩) (fun x hx=>?_)
  obtain ⟨h1,h2,h3,h4⟩:=hm x hx
  subst hx
  exact ⟨fun _=>x,fun _=>rfl,fun b _=>rpairs_spec ra rc b x.1 h1 x.2 h2 Om⟩
theorem ref_le (ra:Option Addr) (rc:Nat) (o:Option Addr) (m:Option HA) (pl:List Int) (N:Int) (hN:N≤1900000000000) (hm:SOk pl N m):Spec Tryz.prog 46 [.pointer o] [refP ra rc o m] (fun (_:Unit)=>.int .i64 (sN m)) (fun _=>True) (fun _=>[refP ra rc o m]):=by
  refine ref_up (fun _=>m) () _ (rlen ) (fun h=>⟨by subst h;rfl,trivial,by subst h;rfl,by subst h;exact fun Γ h s=>s⟩) (fun x hx=>?_)
  obtain ⟨h1,h2,h3,h4⟩:=hm x hx
  subst hx
  exact ⟨fun _=>x,fun _=>rfl,fun b _=>rlen_spec ra rc b x.1 h1 x.2 h2 Om⟩
theorem ref_pa (ra:Option Addr) (rc:Nat) (o:Option Addr) (m:Option HA) (pl:List Int) (N:Int) (hN:N≤1900000000000) (hm:SOk pl N m) (z:Int):Spec Tryz.prog 48 [.pointer o,.int .i64 z] [refP ra rc o m] (fun (_:Unit)=>.tuple #[.agg #[.int .i64 (sW m z).1.1,.int .i64 (sW m z).1.2.1,.int .i64 (sW m z).1.2.2],.bool (sW m z).2.2.1]) (fun _=>True) (fun _=>[refP ra rc o m]):=by
  refine ref_up (fun _=>m) () _ (rpan z) (fun h=>⟨by subst h;rfl,trivial,by subst h;rfl,by subst h;exact fun Γ h s=>s⟩) (fun x hx=>?_)
  obtain ⟨h1,h2,h3,h4⟩:=hm x hx
  subst hx
  exact ⟨fun _=>x,fun _=>rfl,fun b _=>rpair_spec ra rc b x.1 h1 x.2 h2 Om z⟩
theorem ref_la (ra:Option Addr) (rc:Nat) (o:Option Addr) (m:Option HA) (pl:List Int) (N:Int) (hN:N≤1900000000000) (hm:SOk pl N m) (z:Int):Spec Tryz.prog 50 [.pointer o,.int .i64 z] [refP ra rc o m] (fun (_:Unit)=>.tuple #[.agg #[.int .i64 (sW m z).2.1.1,.int .i64 (sW m z).2.1.2.1,.int .i64 (sW m z).2.1.2.2],.bool (sW m z).2.2.1]) (fun _=>True) (fun _=>[refP ra rc o m]):=by
  refine ref_up (fun _=>m) () _ (rlan z) (fun h=>⟨by subst h;rfl,trivial,by subst h;rfl,by subst h;exact fun Γ h s=>s⟩) (fun x hx=>?_)
  obtain ⟨h1,h2,h3,h4⟩:=hm x hx
  subst hx
  exact ⟨fun _=>x,fun _=>rfl,fun b _=>rlatest_spec ra rc b x.1 h1 x.2 h2 Om z⟩
theorem ref_to (ra:Option Addr) (rc:Nat) (o:Option Addr) (m:Option HA) (pl:List Int) (N:Int) (hN:N≤1900000000000) (hm:SOk pl N m) (z:Int):Spec Tryz.prog 55 [.pointer o,.int .i64 z] [refP ra rc o m] (fun (_:Unit)=>.tuple #[.agg #[.int .i64 (sW m z).2.2.2.1.1,.int .i64 (sW m z).2.2.2.1.2.1,.int .i64 (sW m z).2.2.2.1.2.2],.int .i64 (sW m z).2.2.2.2,.bool (decide ((sW m z).2.2.2.1.1≠0))]) (fun _=>True) (fun _=>[refP ra rc o m]):=by
  refine ref_up (fun _=>m) () _ (rton z) (fun h=>⟨by subst h;rfl,trivial,by subst h;rfl,by subst h;exact fun Γ h s=>s⟩) (fun x hx=>?_)
  obtain ⟨h1,h2,h3,h4⟩:=hm x hx
  subst hx
  exact ⟨fun _=>x,fun _=>rfl,fun b _=>rtoucher_spec ra rc b x.1 h1 x.2 h2 Om z⟩
theorem ref_ls (ra:Option Addr) (rc:Nat) (o:Option Addr) (m:Option HA) (pl:List Int) (N:Int) (hN:N≤1900000000000) (hm:SOk pl N m) (z t:Int):Spec Tryz.prog 52 [.pointer o,.int .i64 z,.int .i64 t] [refP ra rc o m] (fun (_:Unit)=>.tuple #[evT (sLs m z t),.int .i64 (sLe m z t)]) (fun _=>True) (fun _=>[refP ra rc o m]):=by
  refine ref_up (fun _=>m) () _ (rlsn z t) (fun h=>⟨by subst h;rfl,trivial,by subst h;rfl,by subst h;exact fun Γ h s=>s⟩) (fun x hx=>?_)
  obtain ⟨h1,h2,h3,h4⟩:=hm x hx
  subst hx
  exact ⟨fun _=>x,fun _=>rfl,fun b _=>rlast_spec ra rc b x.1 h1 x.2 h2 Om z t⟩
theorem ref_ag (ra:Option Addr) (rc:Nat) (o:Option Addr) (m:Option HA) (pl:List Int) (N:Int) (hN:N≤1900000000000) (hm:SOk pl N m) (k t u:Int):Spec Tryz.prog 53 [.pointer o,.agg #[.int .i64 k,.int .i64 t,.int .i64 u]] [refP ra rc o m] (fun (r:Option Addr × Nat)=>.tuple #[.slice r.1 (sAg m k t u).length r.2,.int .i64 (sAe m k t u)]) (fun r=>True) (fun r=>[refP ra rc o m,own 1 encZ r.1 r.2 (sAg m k t u)]):=by
  refine ref_up (fun _=>m) (none,0) _ (ragn k t u) (fun h=>⟨by subst h;rfl,trivial,by subst h;rfl,by subst h;exact fun Γ h s=>sY (sz:=1) (enc:=encZ) s⟩) (fun x hx=>?_)
  obtain ⟨h1,h2,h3,h4⟩:=hm x hx
  subst hx
  exact ⟨fun _=>x,fun _=>rfl,fun b _=>ragq_spec ra rc b x.1 h1 x.2 h2 Om k t u⟩
theorem own_evs (pa:Option Addr) (pc:Nat) (po:Option Addr) (poc:Nat) (o:Option Addr) (m:Option HA) (pl:List Int) (N:Int) (hN:N≤1900000000000) (hm:SOk pl N m) (xs:List T3) (ao:Option Addr) (n cc:Nat) (A:HProp) (hr:RdS A ao (xs.flatMap enc3)) (hxn:xs.length=n) (hb:n≤4000000):Spec Tryz.prog 10 [.pointer o,.slice ao n cc] [ownP pa pc po poc o m,A,own 1 encZ pa pc pl,own 1 encZ po poc pl] (fun (i:Nat)=>.tuple #[.int .i64 ((i:Nat):Int),.int .i64 (evsE m n i)]) (fun i=>EvsOk m xs n i) (fun i=>[ownP pa pc po poc o (m.map fun x=>hA2 x (xs.take i)),A,own 1 encZ pa pc pl,own 1 encZ po poc pl]):=by
  refine own_up (fun i=>m.map fun x=>hA2 x (xs.take i)) 0 _ (devsn ao n cc) (fun b=>devsz b ao n cc) (fun h=>⟨by subst h;rfl,⟨Nat.zero_le _,fun _=>rfl,fun x hx=>(by rw [h] at hx;cases hx)⟩,by subst h;rfl,fun Γ h s=>s⟩) (fun x hx=>?_)
  obtain ⟨h1,h2,h3,h4⟩:=hm x hx
  subst hx
  refine ⟨fun i=>hA2 x (xs.take i),fun _=>rfl,fun b _=>?_⟩
  exact (Hi.events_spec pa pc po poc b x.1 h1 Om pl h3 xs ao n cc A hr hxn hb).conseq (fun Γ hp s=>s.swap) (fun y hy=>⟨y,rfl,⟨hy.1,fun h=>(by cases h),fun z hz=>(by cases hz;exact hy.2)⟩,fun Γ hp s=>s.swap⟩)
theorem ref_evs (ra:Option Addr) (rc:Nat) (o:Option Addr) (m:Option HA) (pl:List Int) (N:Int) (hN:N≤1900000000000) (hm:SOk pl N m) (xs:List T3) (ao:Option Addr) (n cc:Nat) (A:HProp) (hr:RdS A ao (xs.flatMap enc3)) (hxn:xs.length=n) (hb:n≤4000000):Spec Tryz.prog 19 [.pointer o,.slice ao n cc] [refP ra rc o m,A,own 1 encZ ra rc pl] (fun (i:Nat)=>.tuple #[.int .i64 ((i:Nat):Int),.int .i64 (evsE m n i)]) (fun i=>EvsOk m xs n i) (fun i=>[refP ra rc o (m.map fun x=>hA2 x (xs.take i)),A,own 1 encZ ra rc pl]):=by
  refine ref_up (fun i=>m.map fun x=>hA2 x (xs.take i)) 0 _ (revsn ao n cc) (fun h=>⟨by subst h;rfl,⟨Nat.zero_le _,fun _=>rfl,fun x hx=>(by rw [h] at hx;cases hx)⟩,by subst h;rfl,fun Γ h s=>s⟩) (fun x hx=>?_)
  obtain ⟨h1,h2,h3,h4⟩:=hm x hx
  subst hx
  refine ⟨fun i=>hA2 x (xs.take i),fun _=>rfl,fun b _=>?_⟩
  exact (revs_spec ra rc b x.1 h1 x.2 h2 Om pl h3 xs ao n cc A hr hxn hb).conseq (fun Γ hp s=>s.swap) (fun y hy=>⟨y,rfl,⟨hy.1,fun h=>(by cases h),fun z hz=>(by cases hz;exact hy.2)⟩,fun Γ hp s=>s.swap⟩)
theorem own_cy (pa:Option Addr) (pc:Nat) (po:Option Addr) (poc:Nat) (o:Option Addr) (m:Option HA) (pl:List Int) (N:Int) (hN:N≤1900000000000) (hm:SOk pl N m):Spec Tryz.prog 20 [.pointer o] [ownP pa pc po poc o m] (fun (r:Option Addr)=>.pointer r) (fun r=>(r=none↔m=none)∧(r≠none→r≠o)) (fun r=>[ownP pa pc po poc o m,ownP pa pc po poc r m,hdP r]):=by
  refine own_up (fun _=>m) none _ dcyn (fun b=>dcyz b) (fun h=>⟨by subst h;rfl,⟨⟨fun _=>h,fun _=>rfl⟩,fun q=>absurd J q⟩,h,fun Γ hp s=>by subst h;exact sat_free (.inl J) (sat_free (fun a h=>by cases h) s)⟩) (fun x hx=>?_)
  obtain ⟨h1,h2,h3,h4⟩:=hm x hx
  subst hx
  refine ⟨fun _=>x,fun _=>rfl,fun b hob Γ w s=>?_⟩
  refine (hcopy_spec pa pc po poc b x.1 h1 Γ w s).mono fun e w' ⟨r,e1,_,s',a⟩=>⟨some ⟨r,0,none⟩,e1,⟨⟨fun h=>(by cases h),fun h=>(by cases h)⟩,fun _ h=>hs_ne s' (by have h9:=congrArg (fun q:Option Addr=>(q.map (·.block)).getD 0) (h.trans hob);exact h9)⟩,?_,a⟩
  obtain ⟨k1,l1,a1,k2,l2,a2,k3,l3,a3,s2⟩:=s'
  exact ⟨k1,l1,a1,k2,l2,⟨r,rfl,a2⟩,k3,l3,(fun a ha=>⟨r,(Option.some.inj ha).symm,a3⟩),s2⟩
theorem ref_cy (ra:Option Addr) (rc:Nat) (o:Option Addr) (m:Option HA) (pl:List Int) (N:Int) (hN:N≤1900000000000) (hm:SOk pl N m):Spec Tryz.prog 21 [.pointer o] [refP ra rc o m] (fun (r:Option Addr)=>.pointer r) (fun r=>r=none↔m=none) (fun r=>[refP ra rc o m,refP ra rc r m]):=by
  refine ref_up (fun _=>m) none _ rcyn (fun h=>⟨by subst h;rfl,⟨fun _=>h,fun _=>rfl⟩,h,fun Γ hp s=>by subst h;exact sat_free J s⟩) (fun x hx=>?_)
  obtain ⟨h1,h2,h3,h4⟩:=hm x hx
  subst hx
  refine ⟨fun _=>x,fun _=>rfl,fun b hob Γ w s=>?_⟩
  refine (rcopy_spec ra rc b x.1 h1 x.2 h2 Om Γ w s).mono fun e w' ⟨r,e1,_,s',a⟩=>⟨some ⟨r,0,none⟩,e1,⟨fun h=>(by cases h),fun h=>(by cases h)⟩,?_,a⟩
  obtain ⟨k1,l1,a1,k2,l2,a2,s2⟩:=s'
  exact ⟨k1,l1,a1,k2,l2,⟨r,rfl,a2⟩,s2⟩
end Go.Ab.Rh
