/- What the law Plays rests on, part 5 of 8. -/
import Derived.Test.YtjibehgfiljbgaaPlaysD
set_option linter.unusedVariables false
set_option linter.unusedSimpArgs false
set_option maxRecDepth 100000
namespace Go.Ab.Fa
open Go Go.Proofs Go.Ab Go.Ab.Fe Go.Ab.Vc Go.Ab.Dj
def vNew (th va vo lk:Int) (pl:List Int):VS:=⟨newF th va vo lk pl,upd noF 0 (some [1]),noF,noF,noF⟩
theorem one_cv:CV [1]:=⟨by simp [Tr],by decide,by decide⟩
theorem new_vinv {th va vo lk:Int} {pl:List Int} (hok:OkS th va vo lk pl) (hc:CInv (newF th va vo lk pl)):VInv (vNew th va vo lk pl):=by
  have h1:=hok.th
  have hst:∀ t,stF (newF th va vo lk pl) t=if t=0 then (1,0,0) else (0,0,0):=fun t=>by
    have h:=(rel_new hok).st t
    rw [← h]
    unfold upd noF
    split <;> rfl
  have hT:∀ b r:Int,wtN (newF th va vo lk pl) b r=0:=fun b r=>by
    unfold wtN
    rw [List.countP_eq_zero]
    intro s hs h2
    have h3:=of_decide_eq_true h2
    obtain ⟨i,hi⟩:=List.getElem?_of_mem hs
    have h4:=hst (i:Int)
    rw [stF,if_neg Om,Int.toNat_natCast,getD_some hi,h3] at h4
    split at h4 <;> simp at h4
  have hB:∀ b:Int,0≤(opF (newF th va vo lk pl) b).2:=fun b=>by
    unfold opF newF
    rcases getD_mem' (List.replicate pl.length ((0:Int),(0:Int))) b.toNat (0,0) with h | h
    · rw [h];decide
    · rw [(List.mem_replicate.1 h).2];decide
  refine ⟨hc,fun t=>?_,fun t l h=>?_,fun t l h=>(by cases h),fun t l h=>(by cases h),fun r p h=>(by cases h),fun r p h=>(by cases h),fun b r=>?_,fun b _ _=>?_⟩
  · show (upd noF 0 (some [1]) t).isSome=true↔(stF (newF th va vo lk pl) t).1≠0
    rw [isS_upd,hst]
    split <;> simp_all [noF]
  · rcases upd_some (show upd noF 0 (some [1]) t=some l from h) with ⟨-,h⟩ | ⟨-,h⟩
    · cases h;exact one_cv
    · cases h
  · show ((wtN (newF th va vo lk pl) b r:Nat):Int)≤_
    rw [hT];exact Int.le_refl _
  · show ((wtN (newF th va vo lk pl) b _:Nat):Int)≤(opF (newF th va vo lk pl) b).2
    rw [hT];exact hB b
def fNew (th va vo lk:Int) (pl:List Int):FS:=⟨vNew th va vo lk pl,List.replicate va.toNat f0V,0⟩
theorem new_finv {th va vo lk:Int} {pl:List Int} (hok:OkS th va vo lk pl) (hc:CInv (newF th va vo lk pl)):FInv (fNew th va vo lk pl):=by
  have hva:=hok.va
  refine ⟨new_vinv hok hc,by simp [fNew,vNew,newF];omega,fun w hw=>?_,by simp [fNew,vNew,newF],fun t l h=>?_,fun o r ho hr=>rfl,fun o r p ho h=>(by cases h)⟩
  · rw [(List.mem_replicate.1 hw).2]
    exact ⟨by decide,by decide,fun s h=>(by cases h),by decide,by show (-1:Int) < 0;decide⟩
  · rcases upd_some (show upd noF 0 (some [1]) t=some l from h) with ⟨rfl,h⟩ | ⟨-,h⟩
    · cases h;decide
    · cases h
def fEv (x:FS) (e:T3):FS:=feF x e.1 e.2.1 e.2.2
def fAll (x:FS) (es:List T3):FS:=es.foldl fEv x
def canFE (x:FS) (e:T3):Prop:=vcanF x.v e.1 e.2.1 e.2.2
instance (x:FS) (e:T3):Decidable (canFE x e):=by unfold canFE;infer_instance
def okFAll (x:FS) (es:List T3):Prop:=∀ (i:Nat) e,es[i]?=some e→canFE (fAll x (es.take i)) e
theorem fAll_next {x:FS} {es:List T3} {i:Nat} {e:T3} (h:es[i]?=some e):fAll x (es.take (i+1))=fEv (fAll x (es.take i)) e:=by
  rw [List.take_add_one,h,fAll,fAll,List.foldl_append];rfl
theorem fAll_inv {x:FS} (hx:FInv x):∀ es,FInv (fAll x es)
  | []=>hx
  | e::es=>fAll_inv (fe_inv hx _ _ _) es
theorem fe_len {x:FS} (k t o:Int):(feF x k t o).vs.length=x.vs.length:=by
  unfold feF
  split
  · unfold feA
    split
    · simp
    split
    · simp
    · rfl
  · rfl
theorem fe_n {x:FS} (k t o:Int):(feF x k t o).v.ck.n≤x.v.ck.n+1∧(feF x k t o).v.ck.pa=x.v.ck.pa∧(feF x k t o).v.ck.th=x.v.ck.th∧(feF x k t o).v.ck.va=x.v.ck.va:=by
  by_cases hv:vcanF x.v k t o
  · obtain ⟨h1,h2,h3⟩:=nx_all hv.1
    rw [feF,if_pos hv]
    show (vnF x.v k t o).ck.n≤_∧(vnF x.v k t o).ck.pa=_∧(vnF x.v k t o).ck.th=_∧(vnF x.v k t o).ck.va=_
    rw [vn_ck,h1,h2,h3,nx_pa]
    exact ⟨Int.le_refl _,rfl,rfl,rfl⟩
  · rw [feF,if_neg hv];exact ⟨by omega,rfl,rfl,rfl⟩
theorem fAll_n:∀ (es:List T3) (x:FS),(fAll x es).v.ck.n≤x.v.ck.n+es.length∧(fAll x es).v.ck.pa=x.v.ck.pa∧(fAll x es).v.ck.th=x.v.ck.th∧(fAll x es).v.ck.va=x.v.ck.va∧(fAll x es).vs.length=x.vs.length
  | [],x=>⟨by simp [fAll],rfl,rfl,rfl,rfl⟩
  | e::es,x=>by
    have h:=fAll_n es (fEv x e)
    have h2:=fe_n (x:=x) e.1 e.2.1 e.2.2
    refine ⟨?_,h.2.1.trans h2.2.1,h.2.2.1.trans h2.2.2.1,h.2.2.2.1.trans h2.2.2.2,h.2.2.2.2.trans (fe_len _ _ _)⟩
    have h3:=h.1
    have h4:(fEv x e).v.ck.n≤x.v.ck.n+1:=h2.1
    simp only [List.length_cons]
    show (fAll (fEv x e) es).v.ck.n≤_
    omega
theorem okF_next {x:FS} {es:List T3} {i:Nat} {e:T3} (h:es[i]?=some e) (ho:okFAll x (es.take i)) (hc:canFE (fAll x (es.take i)) e):okFAll x (es.take (i+1)):=by
  intro j q hj
  have hi:=(List.getElem?_eq_some_iff.1 h).1
  have hj2:=(List.getElem?_eq_some_iff.1 hj).1
  rw [List.length_take] at hj2
  rw [List.getElem?_take_of_lt Om] at hj
  rw [List.take_take,Nat.min_eq_left Om]
  rcases Nat.lt_or_ge j i with h1 | h1
  · have:=ho j q (by rw [List.getElem?_take_of_lt h1];exact hj)
    rwa [List.take_take,Nat.min_eq_left Om] at this
  · obtain rfl:j=i:=by omega
    rw [h] at hj;cases hj;exact hc
/-- What is told of variables. -/
def wFF (x:FS) (z:Int):Option V4F:=if 0≤z then x.vs[z.toNat]? else none
theorem wFF_nat {x:FS} {i:Nat}:wFF x (i:Int)=x.vs[i]?:=by simp [wFF]
theorem wFF_none {x:FS} {z:Int} (h:z < 0∨(x.vs.length:Int)≤z):wFF x z=none:=by
  unfold wFF
  split
  · rw [List.getElem?_eq_none Om]
  · rfl
theorem wFF_cases (x:FS) (z:Int):(∃ (i:Nat) (w:V4F),z=i∧x.vs[i]?=some w)∨z < 0∨(x.vs.length:Int)≤z:=by
  by_cases h:z < 0∨(x.vs.length:Int)≤z
  · exact .inr h
  · obtain ⟨w,hw⟩:=cP (l:=x.vs) (i:=z.toNat) Om
    exact .inl ⟨z.toNat,w,by omega,hw⟩
def wrE (w:Option V4F):Nat:=(w.map (·.1)).getD 0
def rdE (w:Option V4F):Nat:=(w.map (·.2.1)).getD 0
def shE (w:Option V4F):Option (List Int):=(w.map (·.2.2.1)).getD none
def flFF (vs:List V4F):List T2:=(vs.zipIdx.filter (fun p=>decide (0≤p.1.2.2.2))).map fun p=>((p.2:Int),p.1.2.2.2)
theorem flFF_next {vs:List V4F} {i:Nat} {w:V4F} (h:vs[i]?=some w):flFF (vs.take (i+1))=flFF (vs.take i)++(if 0≤w.2.2.2 then [((i:Int),w.2.2.2)] else []):=by
  have hi:=(List.getElem?_eq_some_iff.1 h).1
  unfold flFF
  rw [List.take_add_one,h,List.zipIdx_append,List.filter_append,List.map_append,List.length_take,Nat.min_eq_left Om]
  congr 1
  by_cases hw:0≤w.2.2.2
  · simp [hw]
  · simp [hw]
theorem flFF_len (vs:List V4F):(flFF vs).length≤vs.length:=by
  unfold flFF
  rw [List.length_map]
  exact Nat.le_trans (List.length_filter_le _ _) (by simp)
theorem events_spec (pa:Option Addr) (pc:Nat) (po:Option Addr) (poc b:Nat) (x:FS) (hx:FInv x) (hn:x.v.ck.n≤10000000000000) (pl:List Int) (hpl:x.v.ck.pa=pl) (xs:List T3) (ao:Option Addr) (n c:Nat) (A:HProp) (hr:RdS A ao (xs.flatMap enc3)) (hxn:xs.length=n) (hb:n≤4000000):Spec Try.prog 12 [.pointer (some ⟨b,0,none⟩),.slice ao n c] [A,dfR pa pc po poc b x,own 1 encZ pa pc pl,own 1 encZ po poc pl] (fun (i:Nat)=>.tuple #[.int .i64 ((i:Nat):Int),.int .i64 (if i=n then 0 else 6)]) (fun i=>i≤n∧okFAll x (xs.take i)∧(i < n→∀ e,xs[i]?=some e→¬ canFE (fAll x (xs.take i)) e)) (fun i=>[A,dfR pa pc po poc b (fAll x (xs.take i)),own 1 encZ pa pc pl,own 1 encZ po poc pl]):=by
 refine kP (n:=28) Try.func12 rfl rfl rfl ?_
 intro Γ w0
 simp only [argE,List.cons_append,List.nil_append,Nat.zero_add,Nat.reduceAdd]
 refine qG (qC (.q 0 (.q 1 (.done))) Kr ?_)
 refine qR rfl rfl rfl rfl (qR rfl rfl rfl rfl (qS (qQ (qG (qG (qC (.q 0 ((.l 1 [] (.done)))) Kr ?_))))))
 refine qK rfl rfl rfl rfl (cK (A:=dfR pa pc po poc b x) Tk ?_)
 refine df_open fun cb m1 m2 m3 m4 va vc F1 F2 F3 F4 V hV=>?_
 have sp_1:=Fa.none_spec b cb (.slice po x.v.ck.pa.length poc) (.map (some m1)) (.map (some m2)) (.map (some m3)) (.map (some m4)) (.slice va x.vs.length vc) (.int .i64 x.cost)
 refine qM rfl rfl rfl rfl rfl rfl κ'32 (sp_1) Ts ?_
 rintro ⟨⟩ -
 try simp only [List.cons_append,List.nil_append]
 refine qV (df_fold (b:=b) x (pa:=pa) (pc:=pc) (po:=po) (poc:=poc) (cb:=cb) (m1:=m1) (m2:=m2) (m3:=m3) (m4:=m4) (va:=va) (vc:=vc) (F1:=F1) (F2:=F2) (F3:=F3) (F4:=F4) (V:=V) Ts (by rfl) (by rfl) (by rfl) (by first | exact hV | simp) ?_)
 refine qS (qQ (kB rfl ?_))
 refine qF (qQ (qG (qG (qC (.q 0 (.q 1 (.q 2 (.done)))) Kr ?_))))
 refine qK rfl rfl rfl rfl (cH rfl rfl rfl rfl υ'26 ?_)
 refine qK rfl rfl rfl rfl (qS (qW [0,1,11,12,13] (e':=[(0,_),(1,_),(11,_),(12,_),(13,_)]) rfl ?_))
 refine qQ (kS ?_)
 refine cD (α:=Nat) (fun (i:Nat)=>i≤n∧(okFAll x (xs.take i))) (fun (i:Nat)=>[(13,.int .i64 ((i:Nat):Int))]) (fun (i:Nat)=>[dfR pa pc po poc b (fAll x (xs.take i)),own 1 encZ pa pc pl,own 1 encZ po poc pl]) (fun (i:Nat)=>n - i) [0,1,11,12] (er:=[(0,_),(1,_),(11,_),(12,_)]) rfl (0) ?_ (by exact ⟨rfl,trivial⟩) (by (try dsimp only);(try simp only [Nat.add_zero,Nat.zero_add]);(repeat ((with_reducible apply Z2);focus (first | (with_reducible (repeat (first | exact Z0 | apply Z1));done) | (repeat (first | exact Z0 | apply Z1)))));exact Z3) ?_
 · exact ⟨Nat.zero_le _,fun j e h=>by simp at h⟩
 rintro i ⟨hle_i,ho⟩
 try simp only [List.cons_append,List.nil_append]
 obtain ⟨hdn,hdp,hdt,hdv,-⟩:=fAll_n (xs.take i) x
 rw [List.length_take] at hdn
 refine qG (qC (.q 0 (.done)) Kr ?_)
 refine qN rfl rfl rfl rfl rfl (sK _ _ _ _) ?_
 refine qS (qQ (qG ?_))
 refine qB rfl (fun hlt=>?_) (fun hlt=>?_)
 ·
  refine qF (qQ (qG (kS (qG (qC (.q 0 (.q 1 (.q 2 ((.l 3 [] (.q 4 ((.l 5 [] (.done))))))))) Kr ?_)))))
  refine qK rfl rfl rfl rfl ?_
  obtain ⟨e,he⟩:=cP (l:=xs) (i:=i) (by first | omega | (simp;done) | (simp;omega))
  refine rC (sz:=2) (k:=i) rfl rfl rfl rfl rfl υ'26 ζ'36 (hr) he enc3_len (by first | rfl | omega) Om ?_
  intro ib16 io16 _ hd16
  refine q_loadN (vs:=[_,_,_]) rfl rfl rfl rfl α'36 ζ'36 Tk (hd16) rfl ?_
  refine cF rfl rfl rfl ω'36 (zs:=[.int .i64 0,.int .i64 0,.int .i64 0]) rfl ?_
  intro b7
  refine qV (qR rfl rfl rfl rfl (kR (j:=0) rfl rfl rfl rfl ζ'36 (us:=[_,_,_]) rfl rfl rfl Tk Az (by first | decide | (simp;done) | omega) ?_))
  simp only [setL,List.set]
  refine qV (qS (qW [0,1,6,7,11,12,13] (e':=[(0,_),(1,_),(6,_),(7,_),(11,_),(12,_),(13,_)]) rfl ?_))
  refine qQ (qG (qC (.q 0 (.q 1 ((.l 2 [] (.q 3 (.done)))))) Kr ?_))
  refine qK rfl rfl rfl rfl (kN rfl rfl rfl rfl α'36 ζ'36 Tk 0 (us:=[_,_,_]) Az rfl rfl ?_)
  have sp_2:=Fa.event_spec pa pc po poc b (fAll x (xs.take i)) (fAll_inv hx _) Om pl (hdp.trans hpl) e.1 e.2.1 e.2.2
  refine qM rfl rfl rfl rfl rfl rfl Try.call14 (sp_2) Ts ?_
  rintro ⟨⟩ -
  try simp only [List.cons_append,List.nil_append]
  refine qV (qR rfl rfl rfl rfl (qS (qW [0,1,6,8,11,12,13] (e':=[(0,_),(1,_),(6,_),(8,_),(11,_),(12,_),(13,_)]) rfl ?_)))
  refine qQ (qG (qC (.q 0 (.q 1 (.done))) Kr ?_))
  refine qK rfl rfl rfl rfl (qN rfl rfl rfl rfl rfl (b_neq _ _ _ _) ?_)
  refine qS (qQ ?_)
  refine qB rfl (fun hne=>?_) (fun hne=>?_)
  ·
   have hncan:¬ canFE (fAll x (xs.take i)) e:=fun h=>hne (if_pos h)
   rw [show (feF (fAll x (xs.take i)) e.1 e.2.1 e.2.2)=(fAll x (xs.take i)) from if_neg hncan]
   refine qG (qC (.q 0 (.q 1 (.q 2 (.q 3 (.done))))) Kr ?_)
   refine qK rfl rfl rfl rfl (qK rfl rfl rfl rfl (qR rfl rfl rfl rfl (qR rfl rfl rfl rfl (qS (qW [4,5] (e':=[(4,_),(5,_)]) rfl ?_)))))
   refine qQ (qJ (cC (qD (qD (cC (qD (ret2 rfl rfl rfl (i) (by rw [if_neg Om,show feE (fAll x (xs.take i)) e.1 e.2.1 e.2.2=6 from if_neg hncan]) (by exact ⟨by omega,ho,fun _ e2 h2=>by rw [he] at h2;cases h2;exact hncan⟩) ?_)))))))
   exact Tf
  have hcan:canFE (fAll x (xs.take i)) e:=Classical.byContradiction fun h=>hne (by rw [show feE (fAll x (xs.take i)) e.1 e.2.1 e.2.2=6 from if_neg h];decide)
  refine qF (kK (qQ (qC (.q 0 (.q 1 (.done))) Kr ?_)))
  refine qN rfl rfl rfl rfl rfl (cV _ (by exact kG Om Om)) ?_
  refine qK rfl rfl rfl rfl (qS (qW [0,1,11,12,13] (e':=[(0,_),(1,_),(11,_),(12,_),(13,_)]) rfl ?_))
  refine qQ ?_
  rw [show (feF (fAll x (xs.take i)) e.1 e.2.1 e.2.2)=fAll x (xs.take (i+1)) from (fAll_next he).symm]
  refine cQ (x:=i) (i+1) ?_ ?_ ?_ ?_
  · exact ⟨by omega,okF_next he ho hcan⟩
  · show n - (i+1) < n - i;omega
  · exact ⟨rfl,rfl,rfl,rfl,rfl,trivial⟩
  · (try simp only [List.cons_append,List.nil_append]);exact Tf
 refine cM (qZ (qZ (kV (qQ (qG (qC (.q 0 (.q 1 (.q 2 (.q 3 (.done))))) Kr ?_))))))
 refine qK rfl rfl rfl rfl (cH rfl rfl rfl rfl υ'26 ?_)
 refine qR rfl rfl rfl rfl (qR rfl rfl rfl rfl (qS (qW [4,5] (e':=[(4,_),(5,_)]) rfl ?_)))
 refine qQ (qJ ?_)
 obtain rfl:i=n:=by omega
 refine ret2 rfl rfl rfl (i) (by rw [if_pos rfl]) (by exact ⟨Nat.le_refl _,ho,fun h=>absurd h (Nat.lt_irrefl _)⟩) ?_
 exact Tf
theorem cost_spec (pa:Option Addr) (pc:Nat) (po:Option Addr) (poc b:Nat) (x:FS) (hx:FInv x):Spec Try.prog 17 [.pointer (some ⟨b,0,none⟩)] [dfR pa pc po poc b x] (fun (_:Unit)=>.int .i64 x.cost) (fun _=>True) (fun _=>[dfR pa pc po poc b x]):=by
 refine kP (n:=9) Try.func17 rfl rfl rfl ?_
 intro Γ w0
 simp only [argE,List.cons_append,List.nil_append,Nat.zero_add,Nat.reduceAdd]
 refine qG (qC (.q 0 (.done)) Kr ?_)
 refine qR rfl rfl rfl rfl (qS (qQ (qG (qG (cK (A:=dfR pa pc po poc b x) Tk ?_)))))
 refine df_open fun cb m1 m2 m3 m4 va vc F1 F2 F3 F4 V hV=>?_
 refine qC (.q 0 ((.l 1 [] (.done)))) Kr ?_
 refine qK rfl rfl rfl rfl ?_
 have sp_1:=Fa.none_spec b cb (.slice po x.v.ck.pa.length poc) (.map (some m1)) (.map (some m2)) (.map (some m3)) (.map (some m4)) (.slice va x.vs.length vc) (.int .i64 x.cost)
 refine qM rfl rfl rfl rfl rfl rfl κ'32 (sp_1) Ts ?_
 rintro ⟨⟩ -
 try simp only [List.cons_append,List.nil_append]
 refine qV (qS (qQ (kB rfl ?_)))
 refine qF (qQ (qG (qC (.q 0 (.q 1 (.q 2 (.q 3 (.q 4 (.done)))))) Kr ?_)))
 refine qK rfl rfl rfl rfl (qX rfl rfl rfl rfl (qL (k:=7) rfl rfl rfl rfl υ'81 rfl ζ'3 rfl ?_))
 refine qP (j:=7) rfl rfl rfl rfl α'3 Tk Az (by rfl) ?_
 refine qR rfl rfl rfl rfl (qS (qW [2] (e':=[(2,_)]) rfl ?_))
 refine qQ (qJ (df_fold (b:=b) x (pa:=pa) (pc:=pc) (po:=po) (poc:=poc) (cb:=cb) (m1:=m1) (m2:=m2) (m3:=m3) (m4:=m4) (va:=va) (vc:=vc) (F1:=F1) (F2:=F2) (F3:=F3) (F4:=F4) (V:=V) Ts (by rfl) (by rfl) (by rfl) (by first | exact hV | simp) ?_))
 refine cR rfl rfl (()) (by first | rfl | (first | rfl | (congr 1;done) | (congr 1 <;> first | rfl | omega | (simp;done) | (simp;omega)))) (by trivial) ?_
 exact Tf
theorem vector_some (pa:Option Addr) (pc:Nat) (po:Option Addr) (poc b:Nat) (x:FS) (hx:FInv x) (t:Int) (l:List Int) (hth:x.v.th t=some l):Spec Try.prog 19 [.pointer (some ⟨b,0,none⟩),.int .i64 t] [dfR pa pc po poc b x] (fun (r:Option Addr × Nat)=>.slice r.1 l.length r.2) (fun r=>True) (fun r=>[dfR pa pc po poc b x,own 1 encU r.1 r.2 l]):=by
 refine kP (n:=23) Try.func19 rfl rfl rfl ?_
 intro Γ w0
 simp only [argE,List.cons_append,List.nil_append,Nat.zero_add,Nat.reduceAdd]
 have hlc:=(hx.v.thc _ _ hth).len
 refine qG (qC (.q 0 (.done)) Kr ?_)
 refine qR rfl rfl rfl rfl (qS (qQ (qG (qG (cK (A:=dfR pa pc po poc b x) Tk ?_)))))
 refine df_open fun cb m1 m2 m3 m4 va vc F1 F2 F3 F4 V hV=>?_
 refine s_rest_take (F:=F1) (T:=x.v.th) (S:=[]) t Tk (by simp) hth fun tv htF=>?_
 refine s_vec Tk fun tb ta tc hta=>?_
 subst hta
 refine qC (.q 0 ((.l 1 [] (.q 2 (.q 3 (.q 4 (.q 5 (.q 6 (.q 7 (.q 8 (.q 9 (.q 10 (.done))))))))))))) Kr ?_
 refine qK rfl rfl rfl rfl ?_
 have sp_1:=Fa.none_spec b cb (.slice po x.v.ck.pa.length poc) (.map (some m1)) (.map (some m2)) (.map (some m3)) (.map (some m4)) (.slice va x.vs.length vc) (.int .i64 x.cost)
 refine qM rfl rfl rfl rfl rfl rfl κ'32 (sp_1) Ts ?_
 rintro ⟨⟩ -
 try simp only [List.cons_append,List.nil_append]
 refine qV (qK rfl rfl rfl rfl (qK rfl rfl rfl rfl (qX rfl rfl rfl rfl (qL (k:=2) rfl rfl rfl rfl υ'81 rfl ζ'77 rfl ?_))))
 refine qP (j:=2) rfl rfl rfl rfl α'77 Tk Az (by rfl) ?_
 refine qK rfl rfl rfl rfl (sL (ek:=ekZ) (ev1:=evA) (F:=F1) (m:=m1) (k:=t) none rfl rfl rfl rfl rfl υ'77 (cW υ'3) ω'86 Tk ?_)
 refine kH 13 rfl (v':=.pointer (some ⟨tb,0,none⟩)) (by rw [htF];rfl) ?_
 refine cY rfl rfl rfl rfl υ'86 ?_
 refine kH 14 rfl (v':=.bool false) rfl ?_
 refine kC rfl rfl rfl rfl rfl (qS (qW [0,1,15] (e':=[(0,_),(1,_),(15,_)]) rfl ?_))
 refine qQ (kB rfl ?_)
 refine qF (qQ (qG (qC (.q 0 (.q 1 (.q 2 (.q 3 (.q 4 (.q 5 ((.l 6 [] (.q 7 (.done)))))))))) Kr ?_)))
 refine qK rfl rfl rfl rfl (qX rfl rfl rfl rfl (qL (k:=2) rfl rfl rfl rfl υ'81 rfl ζ'77 rfl ?_))
 refine qP (j:=2) rfl rfl rfl rfl α'77 Tk Az (by rfl) ?_
 refine qK rfl rfl rfl rfl (sL (ek:=ekZ) (ev1:=evA) (F:=F1) (m:=m1) (k:=t) none rfl rfl rfl rfl rfl υ'77 (cW υ'3) ω'86 Tk ?_)
 refine kH 21 rfl (v':=.pointer (some ⟨tb,0,none⟩)) (by rw [htF];rfl) ?_
 have sp_2:=Vc.list_spec tb l ta l.length tc (by rfl) Om
 refine qM rfl rfl rfl rfl rfl rfl Try.call62 (sp_2) Ts ?_
 rintro ⟨qa,qc⟩ -
 try simp only [List.cons_append,List.nil_append]
 refine qV (qR rfl rfl rfl rfl (qS (qW [4] (e':=[(4,_)]) rfl ?_)))
 refine qQ (qJ (s_vecF tb ta tc l Ts ?_))
 refine sG (F:=F1) (T:=x.v.th) (S:=[]) t F1 x.v.th Ts (by simp) htF (fun _ _ _=>rfl) hth (fun _ _ _=>rfl) ?_
 refine df_fold (b:=b) x (pa:=pa) (pc:=pc) (po:=po) (poc:=poc) (cb:=cb) (m1:=m1) (m2:=m2) (m3:=m3) (m4:=m4) (va:=va) (vc:=vc) (F1:=F1) (F2:=F2) (F3:=F3) (F4:=F4) (V:=V) Ts (by rfl) (by rfl) (by rfl) (by first | exact hV | simp) ?_
 refine cR rfl rfl ((qa,qc)) (by first | rfl | (first | rfl | (congr 1;done) | (congr 1 <;> first | rfl | omega | (simp;done) | (simp;omega)))) (by trivial) ?_
 exact Tf
theorem vector_none (pa:Option Addr) (pc:Nat) (po:Option Addr) (poc b:Nat) (x:FS) (hx:FInv x) (t:Int) (hth:x.v.th t=none):Spec Try.prog 19 [.pointer (some ⟨b,0,none⟩),.int .i64 t] [dfR pa pc po poc b x] (fun (_:Unit)=>.slice none 0 0) (fun _=>True) (fun _=>[dfR pa pc po poc b x]):=by
 refine kP (n:=23) Try.func19 rfl rfl rfl ?_
 intro Γ w0
 simp only [argE,List.cons_append,List.nil_append,Nat.zero_add,Nat.reduceAdd]
 refine qG (qC (.q 0 (.done)) Kr ?_)
 refine qR rfl rfl rfl rfl (qS (qQ (qG (qG (cK (A:=dfR pa pc po poc b x) Tk ?_)))))
 refine df_open fun cb m1 m2 m3 m4 va vc F1 F2 F3 F4 V hV=>?_
 refine s_rest_miss (F:=F1) (T:=x.v.th) (S:=[]) t Tk (by simp) hth fun htF=>?_
 refine qC (.q 0 ((.l 1 [] (.q 2 (.q 3 (.q 4 (.q 5 (.q 6 (.q 7 (.q 8 (.q 9 (.q 10 (.done))))))))))))) Kr ?_
 refine qK rfl rfl rfl rfl ?_
 have sp_1:=Fa.none_spec b cb (.slice po x.v.ck.pa.length poc) (.map (some m1)) (.map (some m2)) (.map (some m3)) (.map (some m4)) (.slice va x.vs.length vc) (.int .i64 x.cost)
 refine qM rfl rfl rfl rfl rfl rfl κ'32 (sp_1) Ts ?_
 rintro ⟨⟩ -
 try simp only [List.cons_append,List.nil_append]
 refine qV (qK rfl rfl rfl rfl (qK rfl rfl rfl rfl (qX rfl rfl rfl rfl (qL (k:=2) rfl rfl rfl rfl υ'81 rfl ζ'77 rfl ?_))))
 refine qP (j:=2) rfl rfl rfl rfl α'77 Tk Az (by rfl) ?_
 refine qK rfl rfl rfl rfl (sL (ek:=ekZ) (ev1:=evA) (F:=F1) (m:=m1) (k:=t) none rfl rfl rfl rfl rfl υ'77 (cW υ'3) ω'86 Tk ?_)
 refine kH 13 rfl (v':=.pointer none) (by rw [htF];rfl) ?_
 refine cY rfl rfl rfl rfl υ'86 ?_
 refine kH 14 rfl (v':=.bool true) rfl ?_
 refine kC rfl rfl rfl rfl rfl (qS (qW [0,1,15] (e':=[(0,_),(1,_),(15,_)]) rfl ?_))
 refine qQ (cN rfl ?_)
 refine qG (qC (.q 0 (.done)) Kr ?_)
 refine qR rfl rfl rfl rfl (qS (qQ (qJ (qD (s_rest_none (F:=F1) (T:=x.v.th) (S:=[]) t F1 x.v.th Tk htF (fun _ _ _=>rfl) hth (fun _ _ _=>rfl) ?_)))))
 refine df_fold (b:=b) x (pa:=pa) (pc:=pc) (po:=po) (poc:=poc) (cb:=cb) (m1:=m1) (m2:=m2) (m3:=m3) (m4:=m4) (va:=va) (vc:=vc) (F1:=F1) (F2:=F2) (F3:=F3) (F4:=F4) (V:=V) Ts (by rfl) (by rfl) (by rfl) (by first | exact hV | simp) ?_
 refine cR rfl rfl (()) (by first | rfl | (first | rfl | (congr 1;done) | (congr 1 <;> first | rfl | omega | (simp;done) | (simp;omega)))) (by trivial) ?_
 exact Tf
theorem vector_spec (pa:Option Addr) (pc:Nat) (po:Option Addr) (poc b:Nat) (x:FS) (hx:FInv x) (t:Int):Spec Try.prog 19 [.pointer (some ⟨b,0,none⟩),.int .i64 t] [dfR pa pc po poc b x] (fun (r:Option Addr × Nat)=>.slice r.1 (thF x.v t).length r.2) (fun r=>True) (fun r=>[dfR pa pc po poc b x,own 1 encU r.1 r.2 (thF x.v t)]):=by
  cases hth:x.v.th t with
  | some l=>rw [thF_eq hth];exact vector_some pa pc po poc b x hx t l hth
  | none =>
    rw [show thF x.v t=[] from by rw [thF,hth];rfl]
    exact (vector_none pa pc po poc b x hx t hth).conseq (fun _ _ s=>s) (fun _ _=>⟨(none,0),rfl,trivial,fun Γ hp s=>(by
      have h:=cJ (sz:=1) (enc:=encU) s
      exact h.swap)⟩)
theorem flags_spec (pa:Option Addr) (pc:Nat) (po:Option Addr) (poc b:Nat) (x:FS) (hx:FInv x):Spec Try.prog 22 [.pointer (some ⟨b,0,none⟩)] [dfR pa pc po poc b x] (fun (r:Option Addr × Nat)=>.slice r.1 (flFF x.vs).length r.2) (fun r=>True) (fun r=>[dfR pa pc po poc b x,own 2 enc2 r.1 r.2 (flFF x.vs)]):=by
 refine kP (n:=30) Try.func22 rfl rfl rfl ?_
 intro Γ w0
 simp only [argE,List.cons_append,List.nil_append,Nat.zero_add,Nat.reduceAdd]
 have hva:=hx.v.ck.sh.va
 have hvl:=hx.len
 refine qG (qC (.q 0 (.done)) Kr ?_)
 refine qR rfl rfl rfl rfl (qS (qQ (qG (qG (cK (A:=dfR pa pc po poc b x) Tk ?_)))))
 refine df_open fun cb m1 m2 m3 m4 va vc F1 F2 F3 F4 V hV=>?_
 refine qC (.q 0 ((.l 1 [] (.done)))) Kr ?_
 refine qK rfl rfl rfl rfl ?_
 have sp_1:=Fa.none_spec b cb (.slice po x.v.ck.pa.length poc) (.map (some m1)) (.map (some m2)) (.map (some m3)) (.map (some m4)) (.slice va x.vs.length vc) (.int .i64 x.cost)
 refine qM rfl rfl rfl rfl rfl rfl κ'32 (sp_1) Ts ?_
 rintro ⟨⟩ -
 try simp only [List.cons_append,List.nil_append]
 refine qV (qS (qQ (kB rfl ?_)))
 refine qF (qQ (qG (qC (.q 0 (.done)) Kr ?_)))
 refine qR rfl rfl rfl rfl (qS (qQ (qG (qG (qC (.q 0 (.q 1 (.q 2 (.q 3 (.q 4 (.q 5 (.done))))))) Kr ?_)))))
 refine qK rfl rfl rfl rfl (qX rfl rfl rfl rfl (qL (k:=6) rfl rfl rfl rfl υ'81 rfl ζ'79 rfl ?_))
 refine qP (j:=6) rfl rfl rfl rfl α'79 Tk Az (by rfl) ?_
 refine cH rfl rfl rfl rfl υ'79 ?_
 refine qK rfl rfl rfl rfl (qS (qW [3,11,12,13] (e':=[(3,_),(11,_),(12,_),(13,_)]) rfl ?_))
 refine qQ (kS (kF (fun _ h=>cJ (sz:=2) (enc:=enc2) h) ?_))
 refine cD (α:=Nat × Option Addr × Nat) (fun (x_:Nat × Option Addr × Nat)=>match x_ with | (k,ga,gc)=>k≤x.vs.length) (fun (x_:Nat × Option Addr × Nat)=>match x_ with | (k,ga,gc)=>[(3,.slice ga ((flFF (x.vs.take k)).length) gc),(13,.int .i64 ((k:Nat):Int))]) (fun (x_:Nat × Option Addr × Nat)=>match x_ with | (k,ga,gc)=>[restL fvarA V x.vs [],own 2 enc2 ga gc (flFF (x.vs.take k))]) (fun (x_:Nat × Option Addr × Nat)=>match x_ with | (k,ga,gc)=>x.vs.length - k) [11,12] (er:=[(11,_),(12,_)]) rfl (0,none,0) ?_ (by exact ⟨rfl,rfl,trivial⟩) (by (try dsimp only);(try simp only [Nat.add_zero,Nat.zero_add]);rw [List.take_zero,show flFF ([]:List V4F)=[] from rfl];(repeat ((with_reducible apply Z2);focus (first | (with_reducible (repeat (first | exact Z0 | apply Z1));done) | (repeat (first | exact Z0 | apply Z1)))));exact Z3) ?_
 · exact Nat.zero_le _
 rintro ⟨k,ga,gc⟩ hle_k
 try simp only [List.cons_append,List.nil_append]
 have hfl:=flFF_len (x.vs.take k)
 rw [List.length_take] at hfl
 refine qG (qC (.q 0 (.done)) Kr ?_)
 refine qN rfl rfl rfl rfl rfl (sK _ _ _ _) ?_
 refine qS (qQ (qG ?_))
 refine qB rfl (fun hlt=>?_) (fun hlt=>?_)
 ·
  obtain ⟨w,hw⟩:=cP (l:=x.vs) (i:=k) Om
  refine s_restL_take (res:=fvarA) (V:=V) (Y:=x.vs) (S:=[]) k Tk (by simp) hw fun v_ hv_=>?_
  obtain ⟨w0_,r0,so,f0⟩:=v_
  refine s_fvar Tk fun he1 he2 he3=>?_
  simp only at he1 he2 he3
  refine qF (qQ (qG (kS (qG (qC (.q 0 (.q 1 (.q 2 ((.l 3 [] (.q 4 ((.l 5 [] (.done))))))))) Kr ?_)))))
  refine qK rfl rfl rfl rfl (kY (sz:=3) (k:=k) (enc:=encF) (xs:=V) rfl rfl rfl rfl rfl υ'79 ζ'88 hv_ (by first | rfl | omega) Om Tk ?_)
  intro ib16 io16 ha16 hl16 hc16
  refine q_loadN_O (j:=0) (k':=k) (us:=[_,_,_,_]) (enc:=encF) (off:=io16) rfl rfl rfl rfl Try.isAgg88 ζ'88 ha16 encF_len hv_ Tk (by first | rfl | exact (Nat.add_zero _).symm | omega) (by rfl) rfl ?_
  refine cF rfl rfl rfl ω'88 (zs:=[.int .u64 0,.int .u64 0,.pointer none,.int .i64 0]) rfl ?_
  intro b5
  refine qV (qR rfl rfl rfl rfl (kR (j:=0) rfl rfl rfl rfl ζ'88 (us:=[_,_,_,_]) rfl rfl rfl Tk Az (by first | decide | (simp;done) | omega) ?_))
  simp only [setL,List.set]
  refine qV (qS (qW [3,4,5,11,12,13] (e':=[(3,_),(4,_),(5,_),(11,_),(12,_),(13,_)]) rfl ?_))
  refine qQ (qG (qC (.q 0 (.q 1 (.q 2 (.done)))) Kr ?_))
  refine qL (k:=3) rfl rfl rfl rfl υ'88 rfl ζ'3 rfl ?_
  refine qP (j:=3) rfl rfl rfl rfl α'3 Tk Az (by rfl) ?_
  refine qN rfl rfl rfl rfl rfl (b_geq _ _ _ _) ?_
  refine qS (qQ ?_)
  refine qB rfl (fun hfg=>?_) (fun hfg=>?_)
  ·
   refine qC (.q 0 (.q 1 (.q 2 (.q 3 (.q 4 ((.l 5 [] ((.l 6 [] (.q 7 (.done))))))))))) Kr ?_
   refine qK rfl rfl rfl rfl (qK rfl rfl rfl rfl (qL (k:=3) rfl rfl rfl rfl υ'88 rfl ζ'3 rfl ?_))
   refine qP (j:=3) rfl rfl rfl rfl α'3 Tk Az (by rfl) ?_
   refine cX rfl rfl rfl rfl (vs:=[_,_]) (kM υ'101 ω'101 (ps:=[(0,1),(1,1)]) ⟨rfl,ζ'3,rfl,ζ'3,trivial⟩ rfl) ?_
   refine cG rfl rfl rfl rfl (cB (us:=[_,_]) υ'61 ζ'101 rfl ω'101 rfl rfl rfl) ?_
   intro b26
   refine qV (sV (sz:=2) (enc:=enc2) (xs:=(flFF (x.vs.take k))) rfl rfl rfl rfl rfl υ'61 Try.typeInfo101 rfl rfl rfl (by decide) Tk Tk (by first | rfl | omega | (simp;done) | (simp;omega)) (ys:=[(((k:Nat):Int),f0)]) (sW sC) (by rfl) (by first | rfl | omega) (enc2_len) (enc2_one) Om (by show _*16≤_;omega) ?_)
   intro ao27 cp27
   refine qV (qR rfl rfl rfl rfl (qS (qW [3,11,12,13] (e':=[(3,_),(11,_),(12,_),(13,_)]) rfl ?_)))
   refine kK (qQ (qC (.q 0 (.q 1 (.done))) Kr ?_))
   refine qN rfl rfl rfl rfl rfl (cV _ (by exact kG Om Om)) ?_
   refine qK rfl rfl rfl rfl (qS (qQ ?_))
   have hnx:=flFF_next hw
   rw [if_pos (by rw [← he3];exact hfg)] at hnx
   rw [show ((k:Int),w.2.2.2)=((k:Int),f0) from by rw [← he3]] at hnx
   rw [← hnx]
   refine s_fvarF (w0_,r0,so,f0) w Td he1 he2 he3 ?_
   refine s_restL_back (res:=fvarA) (V:=V) (Y:=x.vs) (S:=[]) k Ts (by simp) hv_ hw ?_
   refine kH 3 rfl (v':=.slice ao27 (flFF (x.vs.take (k+1))).length cp27) (by rw [hnx,List.length_append];rfl) ?_
   refine kH 3 rfl (v':=.slice ao27 ((flFF (x.vs.take (k+1))).length) cp27) (by first | rfl | (congr 1;done) | (congr 1 <;> first | rfl | omega | (simp;done) | (simp;omega))) ?_
   refine cQ (x:=(k,ga,gc)) ((k+1,ao27,cp27)) ?_ ?_ ?_ ?_
   · try dsimp only
     omega
   · show x.vs.length - (k+1) < x.vs.length - k;omega
   · exact ⟨rfl,rfl,rfl,rfl,trivial⟩
   · (try simp only [List.cons_append,List.nil_append]);exact Tf
  refine qF (kK (qQ (qC (.q 0 (.q 1 (.done))) Kr ?_)))
  refine qN rfl rfl rfl rfl rfl (cV _ (by exact kG Om Om)) ?_
  refine qK rfl rfl rfl rfl (qS (qW [3,11,12,13] (e':=[(3,_),(11,_),(12,_),(13,_)]) rfl ?_))
  refine qQ ?_
  have hnx:=flFF_next hw
  rw [if_neg (by rw [← he3];exact hfg),List.append_nil] at hnx
  rw [← hnx]
  refine s_fvarF (w0_,r0,so,f0) w Td he1 he2 he3 ?_
  refine s_restL_back (res:=fvarA) (V:=V) (Y:=x.vs) (S:=[]) k Ts (by simp) hv_ hw ?_
  refine kH 3 rfl (v':=.slice ga ((flFF (x.vs.take (k+1))).length) gc) (by first | rfl | (congr 1;done) | (congr 1 <;> first | rfl | omega | (simp;done) | (simp;omega))) ?_
  refine cQ (x:=(k,ga,gc)) ((k+1,ga,gc)) ?_ ?_ ?_ ?_
  · try dsimp only
    omega
  · show x.vs.length - (k+1) < x.vs.length - k;omega
  · exact ⟨rfl,rfl,rfl,rfl,trivial⟩
  · (try simp only [List.cons_append,List.nil_append]);exact Tf
 refine cM (qZ (qZ (kV (qQ (qG (qC (.q 0 (.q 1 (.done))) Kr ?_))))))
 refine qK rfl rfl rfl rfl (qR rfl rfl rfl rfl (qS (qW [2] (e':=[(2,_)]) rfl ?_)))
 refine qQ (qJ ?_)
 obtain rfl:k=x.vs.length:=by omega
 rw [List.take_length]
 refine df_fold (b:=b) x (pa:=pa) (pc:=pc) (po:=po) (poc:=poc) (cb:=cb) (m1:=m1) (m2:=m2) (m3:=m3) (m4:=m4) (va:=va) (vc:=vc) (F1:=F1) (F2:=F2) (F3:=F3) (F4:=F4) (V:=V) Ts (by rfl) (by rfl) (by rfl) (by first | exact hV | simp) ?_
 refine cR rfl rfl ((ga,gc)) (by first | rfl | (first | rfl | (congr 1;done) | (congr 1 <;> first | rfl | omega | (simp;done) | (simp;omega)))) (by trivial) ?_
 exact Tf
theorem state_none (pa:Option Addr) (pc:Nat) (po:Option Addr) (poc b:Nat) (x:FS) (hx:FInv x) (z:Int) (hz:z < 0∨(x.vs.length:Int)≤z):Spec Try.prog 18 [.pointer (some ⟨b,0,none⟩),.int .i64 z] [dfR pa pc po poc b x] (fun (r:Option Addr × Nat)=>.tuple #[.agg #[.int .u64 ((wrE (wFF x z):Nat):Int),.int .u64 ((rdE (wFF x z):Nat):Int),.bool (shE (wFF x z)).isSome,.slice r.1 ((shE (wFF x z)).getD []).length r.2],.bool (wFF x z).isSome]) (fun r=>True) (fun r=>[dfR pa pc po poc b x,own 1 encU r.1 r.2 ((shE (wFF x z)).getD [])]):=by
 refine kP (n:=46) Try.func18 rfl rfl rfl ?_
 intro Γ w0
 simp only [argE,List.cons_append,List.nil_append,Nat.zero_add,Nat.reduceAdd]
 refine qG (qC ((.l 0 [] (.q 1 (.done)))) Kr ?_)
 refine cF rfl rfl rfl ω'52 (zs:=[.int .u64 0,.int .u64 0,.bool false,.slice none 0 0]) rfl ?_
 intro b4
 refine qV (qR rfl rfl rfl rfl (qS (qQ (qG (qG (cK (A:=dfR pa pc po poc b x) Tk ?_))))))
 refine df_open fun cb m1 m2 m3 m4 va vc F1 F2 F3 F4 V hV=>?_
 refine qC (.q 0 ((.l 1 [] (.q 2 (.q 3 (.q 4 (.q 5 (.q 6 (.q 7 (.q 8 (.q 9 (.q 10 (.q 11 (.q 12 (.q 13 (.q 14 (.done))))))))))))))))) Kr ?_
 refine qK rfl rfl rfl rfl ?_
 have sp_1:=Fa.none_spec b cb (.slice po x.v.ck.pa.length poc) (.map (some m1)) (.map (some m2)) (.map (some m3)) (.map (some m4)) (.slice va x.vs.length vc) (.int .i64 x.cost)
 refine qM rfl rfl rfl rfl rfl rfl κ'32 (sp_1) Ts ?_
 rintro ⟨⟩ -
 try simp only [List.cons_append,List.nil_append]
 refine qV (qK rfl rfl rfl rfl (qK rfl rfl rfl rfl (qN rfl rfl rfl rfl rfl (sK _ _ _ _) ?_)))
 refine kC rfl rfl rfl rfl rfl (qK rfl rfl rfl rfl ?_)
 refine cL 14 rfl (fun hz0=>?_) (fun hz0=>?_)
 ·
  refine qY rfl rfl rfl rfl (qY rfl rfl rfl rfl (qY rfl rfl rfl rfl (qY rfl rfl rfl rfl (qY rfl rfl rfl rfl (qY rfl rfl rfl rfl (qY rfl rfl rfl rfl (kZ rfl rfl rfl rfl rfl (qS ?_))))))))
  refine qW [0,1,4,22] (e':=[(0,_),(1,_),(4,_),(22,_)]) rfl ?_
  refine qQ (cN rfl ?_)
  refine qG (qC (.q 0 ((.l 1 [] (.q 2 (.done))))) Kr ?_)
  refine cX rfl rfl rfl rfl (vs:=[_,_,_,_]) (kM υ'52 ω'52 (ps:=[(0,1),(1,1),(2,1),(3,1)]) ⟨rfl,ζ'49,rfl,ζ'49,rfl,ζ'4,rfl,ζ'50,trivial⟩ rfl) ?_
  refine kR (j:=0) rfl rfl rfl rfl ζ'52 (us:=[_,_,_,_]) rfl rfl rfl Tk Az (by first | decide | (simp;done) | omega) ?_
  simp only [setL,List.set]
  refine qV (qR rfl rfl rfl rfl (qS (qW [4,5] (e':=[(4,_),(5,_)]) rfl ?_)))
  refine qQ (qJ (qD (df_fold (b:=b) x (pa:=pa) (pc:=pc) (po:=po) (poc:=poc) (cb:=cb) (m1:=m1) (m2:=m2) (m3:=m3) (m4:=m4) (va:=va) (vc:=vc) (F1:=F1) (F2:=F2) (F3:=F3) (F4:=F4) (V:=V) Ts (by rfl) (by rfl) (by rfl) (by first | exact hV | simp) ?_)))
  refine kF (fun _ h=>cJ (sz:=1) (enc:=encU) h) ?_
  refine retL (us:=[_,_]) rfl ⟨rv_cellN rfl α'52 ζ'52 Tk 0 rfl (us:=[_,_,_,_]) rfl rfl,rv_tmp rfl,trivial⟩ ((none,0)) (by rw [wFF_none hz];rfl) (by trivial) ?_
  simp only [wFF_none hz]
  exact Tf
 refine qK rfl rfl rfl rfl (qK rfl rfl rfl rfl (qX rfl rfl rfl rfl (qL (k:=6) rfl rfl rfl rfl υ'81 rfl ζ'79 rfl ?_)))
 refine qP (j:=6) rfl rfl rfl rfl α'79 Tk Az (by rfl) ?_
 refine cH rfl rfl rfl rfl υ'79 ?_
 refine qN rfl rfl rfl rfl rfl (b_geq _ _ _ _) ?_
 refine kC rfl rfl rfl rfl rfl (qS (qW [0,1,4,22] (e':=[(0,_),(1,_),(4,_),(22,_)]) rfl ?_))
 refine qQ ?_
 refine qB rfl (fun hg=>?_) (fun hg=>by exfalso;omega)
 refine qG (qC (.q 0 ((.l 1 [] (.q 2 (.done))))) Kr ?_)
 refine cX rfl rfl rfl rfl (vs:=[_,_,_,_]) (kM υ'52 ω'52 (ps:=[(0,1),(1,1),(2,1),(3,1)]) ⟨rfl,ζ'49,rfl,ζ'49,rfl,ζ'4,rfl,ζ'50,trivial⟩ rfl) ?_
 refine kR (j:=0) rfl rfl rfl rfl ζ'52 (us:=[_,_,_,_]) rfl rfl rfl Tk Az (by first | decide | (simp;done) | omega) ?_
 simp only [setL,List.set]
 refine qV (qR rfl rfl rfl rfl (qS (qW [4,5] (e':=[(4,_),(5,_)]) rfl ?_)))
 refine qQ (qJ (qD (df_fold (b:=b) x (pa:=pa) (pc:=pc) (po:=po) (poc:=poc) (cb:=cb) (m1:=m1) (m2:=m2) (m3:=m3) (m4:=m4) (va:=va) (vc:=vc) (F1:=F1) (F2:=F2) (F3:=F3) (F4:=F4) (V:=V) Ts (by rfl) (by rfl) (by rfl) (by first | exact hV | simp) ?_)))
 refine kF (fun _ h=>cJ (sz:=1) (enc:=encU) h) ?_
 refine retL (us:=[_,_]) rfl ⟨rv_cellN rfl α'52 ζ'52 Tk 0 rfl (us:=[_,_,_,_]) rfl rfl,rv_tmp rfl,trivial⟩ ((none,0)) (by rw [wFF_none hz];rfl) (by trivial) ?_
 simp only [wFF_none hz]
 exact Tf
theorem state_some0 (pa:Option Addr) (pc:Nat) (po:Option Addr) (poc b:Nat) (x:FS) (hx:FInv x) (i:Nat) (w1 w2:Nat) (w4:Int) (hw:x.vs[i]?=some (w1,w2,none,w4)):Spec Try.prog 18 [.pointer (some ⟨b,0,none⟩),.int .i64 ((i:Nat):Int)] [dfR pa pc po poc b x] (fun (r:Option Addr × Nat)=>.tuple #[.agg #[.int .u64 ((wrE (wFF x ((i:Nat):Int)):Nat):Int),.int .u64 ((rdE (wFF x ((i:Nat):Int)):Nat):Int),.bool (shE (wFF x ((i:Nat):Int))).isSome,.slice r.1 ((shE (wFF x ((i:Nat):Int))).getD []).length r.2],.bool (wFF x ((i:Nat):Int)).isSome]) (fun r=>True) (fun r=>[dfR pa pc po poc b x,own 1 encU r.1 r.2 ((shE (wFF x ((i:Nat):Int))).getD [])]):=by
 refine kP (n:=46) Try.func18 rfl rfl rfl ?_
 intro Γ w0
 simp only [argE,List.cons_append,List.nil_append,Nat.zero_add,Nat.reduceAdd]
 have hil:=(List.getElem?_eq_some_iff.1 hw).1
 have hwo:=hx.vs _ (List.mem_of_getElem? hw)
 refine qG (qC ((.l 0 [] (.q 1 (.done)))) Kr ?_)
 refine cF rfl rfl rfl ω'52 (zs:=[.int .u64 0,.int .u64 0,.bool false,.slice none 0 0]) rfl ?_
 intro b4
 refine qV (qR rfl rfl rfl rfl (qS (qQ (qG (qG (cK (A:=dfR pa pc po poc b x) Tk ?_))))))
 refine df_open fun cb m1 m2 m3 m4 va vc F1 F2 F3 F4 V hV=>?_
 refine s_restL_take (res:=fvarA) (V:=V) (Y:=x.vs) (S:=[]) i Tk (by simp) hw fun v_ hv_=>?_
 obtain ⟨w0_,r0,so,f0⟩:=v_
 refine s_fvar Tk fun he1 he2 he3=>?_
 simp only at he1 he2 he3
 refine s_optN (a:=so) Td fun hso=>?_
 subst hso
 refine qC (.q 0 ((.l 1 [] (.q 2 (.q 3 (.q 4 (.q 5 (.q 6 (.q 7 (.q 8 (.q 9 (.q 10 (.q 11 (.q 12 (.q 13 (.q 14 (.done))))))))))))))))) Kr ?_
 refine qK rfl rfl rfl rfl ?_
 have sp_1:=Fa.none_spec b cb (.slice po x.v.ck.pa.length poc) (.map (some m1)) (.map (some m2)) (.map (some m3)) (.map (some m4)) (.slice va x.vs.length vc) (.int .i64 x.cost)
 refine qM rfl rfl rfl rfl rfl rfl κ'32 (sp_1) Ts ?_
 rintro ⟨⟩ -
 try simp only [List.cons_append,List.nil_append]
 refine qV (qK rfl rfl rfl rfl (qK rfl rfl rfl rfl (qN rfl rfl rfl rfl rfl (sK _ _ _ _) ?_)))
 refine kC rfl rfl rfl rfl rfl (qK rfl rfl rfl rfl ?_)
 refine cL 14 rfl (fun hg=>by exfalso;omega) (fun hg=>?_)
 refine qK rfl rfl rfl rfl (qK rfl rfl rfl rfl (qX rfl rfl rfl rfl (qL (k:=6) rfl rfl rfl rfl υ'81 rfl ζ'79 rfl ?_)))
 refine qP (j:=6) rfl rfl rfl rfl α'79 Tk Az (by rfl) ?_
 refine cH rfl rfl rfl rfl υ'79 ?_
 refine qN rfl rfl rfl rfl rfl (b_geq _ _ _ _) ?_
 refine kC rfl rfl rfl rfl rfl (qS (qW [0,1,4,22] (e':=[(0,_),(1,_),(4,_),(22,_)]) rfl ?_))
 refine qQ ?_
 refine qB rfl (fun hg=>by exfalso;omega) (fun hg=>?_)
 refine qF (qQ (qG (qC (.q 0 (.q 1 (.q 2 (.q 3 (.q 4 (.q 5 (.q 6 ((.l 7 [] ((.l 8 [] (.done)))))))))))) Kr ?_)))
 refine qK rfl rfl rfl rfl (qX rfl rfl rfl rfl (qL (k:=6) rfl rfl rfl rfl υ'81 rfl ζ'79 rfl ?_))
 refine qP (j:=6) rfl rfl rfl rfl α'79 Tk Az (by rfl) ?_
 refine qK rfl rfl rfl rfl (kY (sz:=3) (k:=i) (enc:=encF) (xs:=V) rfl rfl rfl rfl rfl υ'79 ζ'88 hv_ (by first | rfl | omega) Om Tk ?_)
 intro ib29 io29 ha29 hl29 hc29
 refine q_loadN_O (j:=0) (k':=i) (us:=[_,_,_,_]) (enc:=encF) (off:=io29) rfl rfl rfl rfl Try.isAgg88 ζ'88 ha29 encF_len hv_ Tk (by first | rfl | exact (Nat.add_zero _).symm | omega) (by rfl) rfl ?_
 refine cF rfl rfl rfl ω'88 (zs:=[.int .u64 0,.int .u64 0,.pointer none,.int .i64 0]) rfl ?_
 intro b6
 refine qV (kR (j:=0) rfl rfl rfl rfl ζ'88 (us:=[_,_,_,_]) rfl rfl rfl Tk Az (by first | decide | (simp;done) | omega) ?_)
 simp only [setL,List.set]
 refine qV (qS (qW [4,6] (e':=[(4,_),(6,_)]) rfl ?_))
 refine qQ (qG (qC (.q 0 (.q 1 (.q 2 (.q 3 (.q 4 (.q 5 (.q 6 (.q 7 ((.l 8 [] ((.l 9 [] (.done))))))))))))) Kr ?_))
 refine qL (k:=0) rfl rfl rfl rfl υ'88 rfl ζ'49 rfl ?_
 refine qP (j:=0) rfl rfl rfl rfl α'49 Tk Az (by rfl) ?_
 refine qL (k:=1) rfl rfl rfl rfl υ'88 rfl ζ'49 rfl ?_
 refine qP (j:=1) rfl rfl rfl rfl α'49 Tk Az (by rfl) ?_
 refine qL (k:=2) rfl rfl rfl rfl υ'88 rfl ζ'86 rfl ?_
 refine qP (j:=2) rfl rfl rfl rfl α'86 Tk Az (by rfl) ?_
 refine q_ne_nil rfl rfl rfl rfl υ'86 ?_
 refine kH 37 rfl (v':=.bool false) rfl ?_
 refine cX rfl rfl rfl rfl (vs:=[_,_,_,_]) (kM υ'52 ω'52 (ps:=[(0,1),(1,1),(2,1),(3,1)]) ⟨rfl,ζ'49,rfl,ζ'49,rfl,ζ'4,rfl,ζ'50,trivial⟩ rfl) ?_
 refine cF rfl rfl rfl ω'52 (zs:=[.int .u64 0,.int .u64 0,.bool false,.slice none 0 0]) rfl ?_
 intro b7
 refine qV (kR (j:=0) rfl rfl rfl rfl ζ'52 (us:=[_,_,_,_]) rfl rfl rfl Tk Az (by first | decide | (simp;done) | omega) ?_)
 simp only [setL,List.set]
 refine qV (qS (qW [4,6,7] (e':=[(4,_),(6,_),(7,_)]) rfl ?_))
 refine qQ (qG (qG (qC (.q 0 (.q 1 (.done))) Kr ?_)))
 refine qL (k:=2) rfl rfl rfl rfl υ'52 rfl ζ'4 rfl ?_
 refine qP (j:=2) rfl rfl rfl rfl α'4 Tk Az (by rfl) ?_
 refine qS (qQ (kB rfl ?_))
 refine qF (qQ (qG (qC (.q 0 ((.l 1 [] (.q 2 (.done))))) Kr ?_)))
 refine kN rfl rfl rfl rfl α'52 ζ'52 Tk 0 (us:=[_,_,_,_]) Az rfl rfl ?_
 refine kR (j:=0) rfl rfl rfl rfl ζ'52 (us:=[_,_,_,_]) rfl rfl rfl Tk Az (by first | decide | (simp;done) | omega) ?_
 simp only [setL,List.set]
 refine qV (qR rfl rfl rfl rfl (qS (qW [4,5] (e':=[(4,_),(5,_)]) rfl ?_)))
 refine qQ (qJ (s_optNF ?_))
 refine s_fvarF (w0_,r0,none,f0) (w1,w2,none,w4) Td he1 he2 he3 ?_
 refine s_restL_back (res:=fvarA) (V:=V) (Y:=x.vs) (S:=[]) i Ts (by simp) hv_ hw ?_
 refine df_fold (b:=b) x (pa:=pa) (pc:=pc) (po:=po) (poc:=poc) (cb:=cb) (m1:=m1) (m2:=m2) (m3:=m3) (m4:=m4) (va:=va) (vc:=vc) (F1:=F1) (F2:=F2) (F3:=F3) (F4:=F4) (V:=V) Ts (by rfl) (by rfl) (by rfl) (by first | exact hV | simp) ?_
 refine kF (fun _ h=>cJ (sz:=1) (enc:=encU) h) ?_
 subst he1 he2
 refine retL (us:=[_,_]) rfl ⟨rv_cellN rfl α'52 ζ'52 Tk 0 rfl (us:=[_,_,_,_]) rfl rfl,rv_tmp rfl,trivial⟩ ((none,0)) (by rw [wFF_nat,hw];rfl) (by trivial) ?_
 simp only [wFF_nat,hw,shE,Option.map_some,Option.getD_some,Option.getD_none]
 exact Tf
theorem state_some1 (pa:Option Addr) (pc:Nat) (po:Option Addr) (poc b:Nat) (x:FS) (hx:FInv x) (i:Nat) (w1 w2:Nat) (s:List Int) (w4:Int) (hw:x.vs[i]?=some (w1,w2,some s,w4)):Spec Try.prog 18 [.pointer (some ⟨b,0,none⟩),.int .i64 ((i:Nat):Int)] [dfR pa pc po poc b x] (fun (r:Option Addr × Nat)=>.tuple #[.agg #[.int .u64 ((wrE (wFF x ((i:Nat):Int)):Nat):Int),.int .u64 ((rdE (wFF x ((i:Nat):Int)):Nat):Int),.bool (shE (wFF x ((i:Nat):Int))).isSome,.slice r.1 ((shE (wFF x ((i:Nat):Int))).getD []).length r.2],.bool (wFF x ((i:Nat):Int)).isSome]) (fun r=>True) (fun r=>[dfR pa pc po poc b x,own 1 encU r.1 r.2 ((shE (wFF x ((i:Nat):Int))).getD [])]):=by
 refine kP (n:=46) Try.func18 rfl rfl rfl ?_
 intro Γ w0
 simp only [argE,List.cons_append,List.nil_append,Nat.zero_add,Nat.reduceAdd]
 have hil:=(List.getElem?_eq_some_iff.1 hw).1
 have hwo:=hx.vs _ (List.mem_of_getElem? hw)
 have hsl:=(hwo.2.2.1 s rfl).len
 refine qG (qC ((.l 0 [] (.q 1 (.done)))) Kr ?_)
 refine cF rfl rfl rfl ω'52 (zs:=[.int .u64 0,.int .u64 0,.bool false,.slice none 0 0]) rfl ?_
 intro b4
 refine qV (qR rfl rfl rfl rfl (qS (qQ (qG (qG (cK (A:=dfR pa pc po poc b x) Tk ?_))))))
 refine df_open fun cb m1 m2 m3 m4 va vc F1 F2 F3 F4 V hV=>?_
 refine s_restL_take (res:=fvarA) (V:=V) (Y:=x.vs) (S:=[]) i Tk (by simp) hw fun v_ hv_=>?_
 obtain ⟨w0_,r0,so,f0⟩:=v_
 refine s_fvar Tk fun he1 he2 he3=>?_
 simp only at he1 he2 he3
 refine s_optS (a:=so) (l:=s) Td fun sb sa sc hso=>?_
 subst hso
 refine qC (.q 0 ((.l 1 [] (.q 2 (.q 3 (.q 4 (.q 5 (.q 6 (.q 7 (.q 8 (.q 9 (.q 10 (.q 11 (.q 12 (.q 13 (.q 14 (.done))))))))))))))))) Kr ?_
 refine qK rfl rfl rfl rfl ?_
 have sp_1:=Fa.none_spec b cb (.slice po x.v.ck.pa.length poc) (.map (some m1)) (.map (some m2)) (.map (some m3)) (.map (some m4)) (.slice va x.vs.length vc) (.int .i64 x.cost)
 refine qM rfl rfl rfl rfl rfl rfl κ'32 (sp_1) Ts ?_
 rintro ⟨⟩ -
 try simp only [List.cons_append,List.nil_append]
 refine qV (qK rfl rfl rfl rfl (qK rfl rfl rfl rfl (qN rfl rfl rfl rfl rfl (sK _ _ _ _) ?_)))
 refine kC rfl rfl rfl rfl rfl (qK rfl rfl rfl rfl ?_)
 refine cL 14 rfl (fun hg=>by exfalso;omega) (fun hg=>?_)
 refine qK rfl rfl rfl rfl (qK rfl rfl rfl rfl (qX rfl rfl rfl rfl (qL (k:=6) rfl rfl rfl rfl υ'81 rfl ζ'79 rfl ?_)))
 refine qP (j:=6) rfl rfl rfl rfl α'79 Tk Az (by rfl) ?_
 refine cH rfl rfl rfl rfl υ'79 ?_
 refine qN rfl rfl rfl rfl rfl (b_geq _ _ _ _) ?_
 refine kC rfl rfl rfl rfl rfl (qS (qW [0,1,4,22] (e':=[(0,_),(1,_),(4,_),(22,_)]) rfl ?_))
 refine qQ ?_
 refine qB rfl (fun hg=>by exfalso;omega) (fun hg=>?_)
 refine qF (qQ (qG (qC (.q 0 (.q 1 (.q 2 (.q 3 (.q 4 (.q 5 (.q 6 ((.l 7 [] ((.l 8 [] (.done)))))))))))) Kr ?_)))
 refine qK rfl rfl rfl rfl (qX rfl rfl rfl rfl (qL (k:=6) rfl rfl rfl rfl υ'81 rfl ζ'79 rfl ?_))
 refine qP (j:=6) rfl rfl rfl rfl α'79 Tk Az (by rfl) ?_
 refine qK rfl rfl rfl rfl (kY (sz:=3) (k:=i) (enc:=encF) (xs:=V) rfl rfl rfl rfl rfl υ'79 ζ'88 hv_ (by first | rfl | omega) Om Tk ?_)
 intro ib29 io29 ha29 hl29 hc29
 refine q_loadN_O (j:=0) (k':=i) (us:=[_,_,_,_]) (enc:=encF) (off:=io29) rfl rfl rfl rfl Try.isAgg88 ζ'88 ha29 encF_len hv_ Tk (by first | rfl | exact (Nat.add_zero _).symm | omega) (by rfl) rfl ?_
 refine cF rfl rfl rfl ω'88 (zs:=[.int .u64 0,.int .u64 0,.pointer none,.int .i64 0]) rfl ?_
 intro b6
 refine qV (kR (j:=0) rfl rfl rfl rfl ζ'88 (us:=[_,_,_,_]) rfl rfl rfl Tk Az (by first | decide | (simp;done) | omega) ?_)
 simp only [setL,List.set]
 refine qV (qS (qW [4,6] (e':=[(4,_),(6,_)]) rfl ?_))
 refine qQ (qG (qC (.q 0 (.q 1 (.q 2 (.q 3 (.q 4 (.q 5 (.q 6 (.q 7 ((.l 8 [] ((.l 9 [] (.done))))))))))))) Kr ?_))
 refine qL (k:=0) rfl rfl rfl rfl υ'88 rfl ζ'49 rfl ?_
 refine qP (j:=0) rfl rfl rfl rfl α'49 Tk Az (by rfl) ?_
 refine qL (k:=1) rfl rfl rfl rfl υ'88 rfl ζ'49 rfl ?_
 refine qP (j:=1) rfl rfl rfl rfl α'49 Tk Az (by rfl) ?_
 refine qL (k:=2) rfl rfl rfl rfl υ'88 rfl ζ'86 rfl ?_
 refine qP (j:=2) rfl rfl rfl rfl α'86 Tk Az (by rfl) ?_
 refine q_ne_nil rfl rfl rfl rfl υ'86 ?_
 refine kH 37 rfl (v':=.bool true) rfl ?_
 refine cX rfl rfl rfl rfl (vs:=[_,_,_,_]) (kM υ'52 ω'52 (ps:=[(0,1),(1,1),(2,1),(3,1)]) ⟨rfl,ζ'49,rfl,ζ'49,rfl,ζ'4,rfl,ζ'50,trivial⟩ rfl) ?_
 refine cF rfl rfl rfl ω'52 (zs:=[.int .u64 0,.int .u64 0,.bool false,.slice none 0 0]) rfl ?_
 intro b7
 refine qV (kR (j:=0) rfl rfl rfl rfl ζ'52 (us:=[_,_,_,_]) rfl rfl rfl Tk Az (by first | decide | (simp;done) | omega) ?_)
 simp only [setL,List.set]
 refine qV (qS (qW [4,6,7] (e':=[(4,_),(6,_),(7,_)]) rfl ?_))
 refine qQ (qG (qG (qC (.q 0 (.q 1 (.done))) Kr ?_)))
 refine qL (k:=2) rfl rfl rfl rfl υ'52 rfl ζ'4 rfl ?_
 refine qP (j:=2) rfl rfl rfl rfl α'4 Tk Az (by rfl) ?_
 refine qS (qQ (cN rfl ?_))
 refine qC (.q 0 (.q 1 ((.l 2 [] (.q 3 ((.l 4 [] (.done)))))))) Kr ?_
 refine qL (k:=2) rfl rfl rfl rfl υ'88 rfl ζ'86 rfl ?_
 refine qP (j:=2) rfl rfl rfl rfl α'86 Tk Az (by rfl) ?_
 have sp_2:=Vc.list_spec sb s sa s.length sc (by rfl) Om
 refine qM rfl rfl rfl rfl rfl rfl Try.call62 (sp_2) Ts ?_
 rintro ⟨qa,qc⟩ -
 try simp only [List.cons_append,List.nil_append]
 refine qV (qL (k:=3) rfl rfl rfl rfl υ'52 rfl ζ'50 rfl ?_)
 refine kR (j:=3) rfl rfl rfl rfl ζ'50 (us:=[_]) rfl rfl rfl Tk Az (by first | decide | (simp;done) | omega) ?_
 simp only [setL,List.set]
 refine qV (qS (qW [4,7] (e':=[(4,_),(7,_)]) rfl ?_))
 refine qQ (qG (qC (.q 0 ((.l 1 [] (.q 2 (.done))))) Kr ?_))
 refine kN rfl rfl rfl rfl α'52 ζ'52 Tk 0 (us:=[_,_,_,_]) Az rfl rfl ?_
 refine kR (j:=0) rfl rfl rfl rfl ζ'52 (us:=[_,_,_,_]) rfl rfl rfl Tk Az (by first | decide | (simp;done) | omega) ?_
 simp only [setL,List.set]
 refine qV (qR rfl rfl rfl rfl (qS (qQ (qJ (s_vecF sb sa sc s Ts ?_)))))
 refine s_optF Td ?_
 refine s_fvarF (w0_,r0,some ⟨sb,0,none⟩,f0) (w1,w2,some s,w4) Td he1 he2 he3 ?_
 refine s_restL_back (res:=fvarA) (V:=V) (Y:=x.vs) (S:=[]) i Ts (by simp) hv_ hw ?_
 refine df_fold (b:=b) x (pa:=pa) (pc:=pc) (po:=po) (poc:=poc) (cb:=cb) (m1:=m1) (m2:=m2) (m3:=m3) (m4:=m4) (va:=va) (vc:=vc) (F1:=F1) (F2:=F2) (F3:=F3) (F4:=F4) (V:=V) Ts (by rfl) (by rfl) (by rfl) (by first | exact hV | simp) ?_
 subst he1 he2
 refine retL (us:=[_,_]) rfl ⟨rv_cellN rfl α'52 ζ'52 Tk 0 rfl (us:=[_,_,_,_]) rfl rfl,rv_tmp rfl,trivial⟩ ((qa,qc)) (by rw [wFF_nat,hw];rfl) (by trivial) ?_
 simp only [wFF_nat,hw,shE,Option.map_some,Option.getD_some,Option.getD_none]
 exact Tf
theorem state_spec (pa:Option Addr) (pc:Nat) (po:Option Addr) (poc b:Nat) (x:FS) (hx:FInv x) (z:Int):Spec Try.prog 18 [.pointer (some ⟨b,0,none⟩),.int .i64 z] [dfR pa pc po poc b x] (fun (r:Option Addr × Nat)=>.tuple #[.agg #[.int .u64 ((wrE (wFF x z):Nat):Int),.int .u64 ((rdE (wFF x z):Nat):Int),.bool (shE (wFF x z)).isSome,.slice r.1 ((shE (wFF x z)).getD []).length r.2],.bool (wFF x z).isSome]) (fun r=>True) (fun r=>[dfR pa pc po poc b x,own 1 encU r.1 r.2 ((shE (wFF x z)).getD [])]):=by
  rcases wFF_cases x z with ⟨i,⟨w1,w2,ws,w4⟩,rfl,hw⟩ | hz
  · cases ws with
    | none=>exact state_some0 pa pc po poc b x hx i w1 w2 w4 hw
    | some s=>exact state_some1 pa pc po poc b x hx i w1 w2 s w4 hw
  · exact state_none pa pc po poc b x hx z hz
end Go.Ab.Fa
set_option linter.unusedVariables false
set_option linter.unusedSimpArgs false
set_option maxRecDepth 100000
namespace Go.Ab.Fa
open Go Go.Proofs Go.Ab Go.Ab.Fe Go.Ab.Vc Go.Ab.Dj
theorem new_spec (th va vo lk:Int) (pl:List Int) (ao:Option Addr) (n c:Nat) (A:HProp) (hr:RdS A ao (pl.flatMap encZ)) (hn:pl.length=n) (hb:n≤4000000) (hok:OkS th va vo lk pl):Spec Try.prog 9 [.agg #[.int .i64 th,.int .i64 va,.int .i64 vo,.int .i64 lk,.slice ao n c]] [A] (fun (r:Nat × (Option Addr × Nat) × Option Addr × Nat)=>.tuple #[.pointer (some ⟨r.1,0,none⟩),.int .i64 0]) (fun r=>True) (fun r=>[A,own 1 encZ r.2.1.1 r.2.1.2 pl,own 1 encZ r.2.2.1 r.2.2.2 pl,dfR r.2.1.1 r.2.1.2 r.2.2.1 r.2.2.2 r.1 (fNew th va vo lk pl)]):=by
 refine kP (n:=52) Try.func9 rfl rfl rfl ?_
 intro Γ w0
 simp only [argE,List.cons_append,List.nil_append,Nat.zero_add,Nat.reduceAdd]
 refine qG (qC ((.l 0 [] (.q 1 (.q 2 (.done))))) Kr ?_)
 refine sX rfl rfl rfl rfl (us:=[_,_,_,_,_]) rfl ?_
 intro b1
 refine qV (qR rfl rfl rfl rfl (qR rfl rfl rfl rfl (qS (qQ (qG (qC (.q 0 ((.l 1 [] (.q 2 (.q 3 (.q 4 (.q 5 (.q 6 (.done))))))))) Kr ?_))))))
 refine kN rfl rfl rfl rfl α'25 ζ'25 Tk 0 (us:=[_,_,_,_,_]) Az rfl rfl ?_
 have sp_1:=Fe.new_spec th va vo lk pl ao n c A (hr) Ln Om hok
 refine qM rfl rfl rfl rfl rfl rfl Try.call27 (sp_1) Ts ?_
 rintro ⟨nb,nbp,nbc⟩ -
 try simp only [List.cons_append,List.nil_append]
 refine qV (qK rfl rfl rfl rfl (kW rfl rfl rfl rfl rfl (kW rfl rfl rfl rfl rfl (qR rfl rfl rfl rfl (qR rfl rfl rfl rfl (qS (qW [1,4,5] (e':=[(1,_),(4,_),(5,_)]) rfl ?_)))))))
 refine qQ (qG (qG (qC (.q 0 (.q 1 (.done))) Kr ?_)))
 refine qK rfl rfl rfl rfl (qN rfl rfl rfl rfl rfl (b_neq _ _ _ _) ?_)
 refine kH 13 rfl (v':=.bool false) (by first | rfl | simp) ?_
 refine qS (qQ (kB rfl ?_))
 refine qF (qQ (qG (qC (.q 0 (.q 1 (.q 2 ((.l 3 [] ((.l 4 [] ((.l 5 [] ((.l 6 [] ((.l 7 [] (.q 8 ((.l 9 [] (.q 10 (.done)))))))))))))))))) Kr ?_)))
 refine qK rfl rfl rfl rfl (qL (k:=4) rfl rfl rfl rfl υ'25 rfl ζ'23 rfl ?_)
 refine qP (j:=4) rfl rfl rfl rfl α'23 Tk Az (by rfl) ?_
 have sp_2:=Fe.clonez_spec pl ao n c A Ln (hr) Om
 refine qM rfl rfl rfl rfl rfl rfl Try.call28 (sp_2) Ts ?_
 rintro ⟨qa,qc⟩ -
 try simp only [List.cons_append,List.nil_append]
 refine qV (rK Int (Option Addr) ekZ evA rfl rfl rfl ?_)
 intro m1
 refine qV (rK Int (Option Addr) ekZ evA rfl rfl rfl ?_)
 intro m2
 refine qV (rK Int (Option Addr) ekZ evA rfl rfl rfl ?_)
 intro m3
 refine qV (rK (Int × Int) (Option Addr) ek2 evA rfl rfl rfl ?_)
 intro m4
 refine qV (cX rfl rfl rfl rfl (vs:=[_,_,_,_,_,_,_,_]) (kM υ'81 Try.zeroValue81 (ps:=[(0,1),(1,1),(2,1),(3,1),(4,1),(5,1),(6,1),(7,1)]) ⟨rfl,ζ'76,rfl,ζ'23,rfl,ζ'77,rfl,ζ'77,rfl,ζ'77,rfl,ζ'78,rfl,ζ'79,rfl,ζ'3,trivial⟩ rfl) ?_)
 refine sX rfl rfl rfl rfl (us:=[_,_,_,_,_,_,_,_]) rfl ?_
 intro bd
 refine qV (qR rfl rfl rfl rfl (qS (qW [1,6] (e':=[(1,_),(6,_)]) rfl ?_)))
 refine qQ (qG (qG ?_))
 obtain ⟨nv,hnv⟩:∃ q:Nat,va=(q:Int):=⟨va.toNat,by have:=hok.va;omega⟩
 have hvb:=hok.va
 refine s_restL_nil (res:=fvarA) ?_
 refine kF (fun _ h=>cJ (sz:=4) (enc:=encF) h) ?_
 refine qC (.q 0 (.q 1 (.q 2 (.done)))) Kr ?_
 refine qL (k:=1) rfl rfl rfl rfl υ'25 rfl ζ'3 rfl ?_
 refine qP (j:=1) rfl rfl rfl rfl α'3 Tk Az (by rfl) ?_
 refine kH 26 rfl (v':=.int .i64 ((nv:Nat):Int)) (by rw [hnv]) ?_
 refine qK rfl rfl rfl rfl (qS (qQ (kS ?_)))
 refine cD (α:=Nat × List P4F × Option Addr × Nat) (fun (x_:Nat × List P4F × Option Addr × Nat)=>match x_ with | (k,GV,ga,gc)=>k≤nv∧(GV.length=k)) (fun (x_:Nat × List P4F × Option Addr × Nat)=>match x_ with | (k,GV,ga,gc)=>[(27,.int .i64 ((k:Nat):Int))]) (fun (x_:Nat × List P4F × Option Addr × Nat)=>match x_ with | (k,GV,ga,gc)=>[restL fvarA GV (List.replicate k f0V) [],cells bd 0 [.pointer (some ⟨nb,0,none⟩),.slice qa n qc,.map (some m1),.map (some m2),.map (some m3),.map (some m4),.slice ga GV.length gc,.int .i64 0],own 4 encF ga gc GV]) (fun (x_:Nat × List P4F × Option Addr × Nat)=>match x_ with | (k,GV,ga,gc)=>nv - k) [6,26] (er:=[(6,_),(26,_)]) rfl (0,([]:List P4F),none,0) ?_ (by exact ⟨rfl,trivial⟩) (by (try dsimp only);(try simp only [Nat.add_zero,Nat.zero_add]);(repeat ((with_reducible apply Z2);focus (first | (with_reducible (repeat (first | exact Z0 | apply Z1));done) | (repeat (first | exact Z0 | apply Z1)))));exact Z3) ?_
 · exact ⟨Nat.zero_le _,rfl⟩
 rintro ⟨k,GV,ga,gc⟩ ⟨hle_k,hGV⟩
 try simp only [List.cons_append,List.nil_append]
 refine qG (qC (.q 0 (.done)) Kr ?_)
 refine qN rfl rfl rfl rfl rfl (sK _ _ _ _) ?_
 refine qS (qQ (qG ?_))
 refine qB rfl (fun hlt=>?_) (fun hlt=>?_)
 ·
  refine qF (qQ (qG (kS (qC (.q 0 (.q 1 (.q 2 (.q 3 (.q 4 (.q 5 ((.l 6 [] ((.l 7 [] (.q 8 (.q 9 ((.l 10 [] (.done))))))))))))))) Kr ?_))))
  refine qK rfl rfl rfl rfl (qK rfl rfl rfl rfl (qX rfl rfl rfl rfl (qL (k:=6) rfl rfl rfl rfl υ'81 rfl ζ'79 rfl ?_)))
  refine qP (j:=6) rfl rfl rfl rfl α'79 Tk Az (by rfl) ?_
  refine cX rfl rfl rfl rfl (vs:=[_,_,_,_]) (kM υ'88 ω'88 (ps:=[(0,1),(1,1),(2,1),(3,1)]) ⟨rfl,ζ'49,rfl,ζ'49,rfl,ζ'86,rfl,ζ'3,trivial⟩ rfl) ?_
  refine cG rfl rfl rfl rfl (cB (us:=[_,_,_,_]) υ'79 ζ'88 rfl ω'88 rfl rfl rfl) ?_
  intro b35
  refine qV (sV (sz:=4) (enc:=encF) (xs:=GV) rfl rfl rfl rfl rfl υ'79 Try.typeInfo88 rfl rfl rfl (by decide) Tk Tk (by first | rfl | omega | (simp;done) | (simp;omega)) (ys:=[(0,0,none,(-1))]) (sW sC) (by rfl) (by first | rfl | omega) (encF_len) (encF_one) Om (by show _*32≤_;omega) ?_)
  intro ao36 cp36
  refine qV (qX rfl rfl rfl rfl (qL (k:=6) rfl rfl rfl rfl υ'81 rfl ζ'79 rfl ?_))
  refine kR (j:=6) rfl rfl rfl rfl ζ'79 (us:=[_]) rfl rfl rfl Tk Az (by first | decide | (simp;done) | omega) ?_
  simp only [setL,List.set]
  refine qV (qS (s_optNF ?_))
  refine s_fvarF ((0,0,none,-1):P4F) f0V Td rfl rfl rfl ?_
  refine s_restL_push ((0,0,none,-1):P4F) f0V Ts (by simp [hGV]) ?_
  rw [← List.replicate_succ']
  refine qW [6,26,27] (e':=[(6,_),(26,_),(27,_)]) rfl ?_
  refine kK (qQ (qC (.q 0 (.q 1 (.done))) Kr ?_))
  refine qN rfl rfl rfl rfl rfl (cV _ (by exact kG Om Om)) ?_
  refine qK rfl rfl rfl rfl (qS (qQ ?_))
  have hgl2:(GV++[((0,0,none,-1):P4F)]).length=GV.length+1:=by simp
  refine cK (A:=cells bd 0 [.pointer (some ⟨nb,0,none⟩),.slice qa n qc,.map (some m1),.map (some m2),.map (some m3),.map (some m4),.slice ao36 (GV.length+1) cp36,.int .i64 0]) Td ?_
  refine kF (Γ':=cells bd 0 [.pointer (some ⟨nb,0,none⟩),.slice qa n qc,.map (some m1),.map (some m2),.map (some m3),.map (some m4),.slice ao36 ((GV++[((0,0,none,-1):P4F)]).length) cp36,.int .i64 0]::_) (fun _ h=>(by rw [hgl2];exact h)) ?_
  refine cQ (x:=(k,GV,ga,gc)) ((k+1,GV++[((0,0,none,-1):P4F)],ao36,cp36)) ?_ ?_ ?_ ?_
  · try dsimp only
    exact ⟨by omega,by simp [hGV]⟩
  · show nv - (k+1) < nv - k;omega
  · exact ⟨rfl,rfl,rfl,trivial⟩
  · (try simp only [List.cons_append,List.nil_append]);exact Tf
 refine cM (qZ (qZ (kV (qQ (qG (kX rfl (.q 0 (.q 1 (.q 2 (.q 3 ((.l 4 [3] ((.l 5 [] (.done))))))))) Kr ?_))))))
 refine qK rfl rfl rfl rfl (qX rfl rfl rfl rfl (qL (k:=2) rfl rfl rfl rfl υ'81 rfl ζ'77 rfl ?_))
 refine qP (j:=2) rfl rfl rfl rfl α'77 Tk Az (by rfl) ?_
 have sp_3:=cnew_spec
 refine qM rfl rfl rfl rfl rfl rfl κ'29 (sp_3) Ts ?_
 rintro tb -
 try simp only [List.cons_append,List.nil_append]
 refine qH (q:=2) rfl rfl rfl α'77 Tk Az (by rfl) ?_
 refine qV (sF (ek:=ekZ) (ev1:=evA) (F:=(noF:Int→Option (Option Addr))) (m:=m1) (k:=0) (v:=(some ⟨tb,0,none⟩:Option Addr)) (by first | exact .inl rfl | exact .inr rfl) rfl rfl rfl rfl υ'77 (cW υ'3) Tk ?_)
 refine qV (qS (qW [6] (e':=[(6,_)]) rfl ?_))
 refine qQ (qG (qC (.q 0 (.q 1 (.q 2 (.q 3 (.q 4 ((.l 5 [] (.done)))))))) Kr ?_))
 refine qK rfl rfl rfl rfl (qX rfl rfl rfl rfl (qL (k:=2) rfl rfl rfl rfl υ'81 rfl ζ'77 rfl ?_))
 refine qP (j:=2) rfl rfl rfl rfl α'77 Tk Az (by rfl) ?_
 refine sL (ek:=ekZ) (ev1:=evA) (F:=(upd (noF:Int→Option (Option Addr)) 0 (some (some ⟨tb,0,none⟩:Option Addr)))) (m:=m1) (k:=0) none rfl rfl rfl rfl rfl υ'77 (cW υ'3) ω'86 Tk ?_
 refine kH 49 rfl (v':=.pointer (some ⟨tb,0,none⟩)) (by simp only [sQ];rfl) ?_
 refine kF (fun _ h=>cJ (sz:=1) (enc:=encU) h) ?_
 have sp_4:=Vc.set_spec tb ([]:List Int) none 0 0 Ln nil_cv 0 Om 1 (by decide) (by decide)
 refine qM rfl rfl rfl rfl rfl rfl κ'30 (sp_4) Ts ?_
 rintro ⟨sa,sc⟩ -
 try simp only [List.cons_append,List.nil_append]
 refine qV (qS (qW [6] (e':=[(6,_)]) rfl ?_))
 refine qQ (qG (qC (.q 0 (.q 1 (.q 2 (.done)))) Kr ?_))
 refine qK rfl rfl rfl rfl (qR rfl rfl rfl rfl (qR rfl rfl rfl rfl (qS (qQ (qJ ?_)))))
 obtain rfl:k=nv:=by omega
 have hs1:stL [] 0 1=[1]:=by decide
 rw [hs1]
 refine s_vecF tb sa sc [1] Ts ?_
 refine s_rest_new (res:=vecA) (noF:Int→Option (Option Addr)) (noF:Int→Option (List Int)) (fun _=>rfl) (fun _=>rfl) ?_
 refine s_rest_opt (F:=(noF:Int→Option (Option Addr))) (T:=(noF:Int→Option (List Int))) (S:=[]) (0:Int) Tk (by simp) fun _=>?_
 refine sG (F:=(noF:Int→Option (Option Addr))) (T:=(noF:Int→Option (List Int))) (S:=[]) (0:Int) (upd noF 0 (some (some ⟨tb,0,none⟩))) (upd noF 0 (some [1])) Ts (by simp) sQ (fun q h _=>sB h) sQ (fun q h _=>sB h) ?_
 refine s_rest_new (res:=vecA) (noF:Int→Option (Option Addr)) (noF:Int→Option (List Int)) (fun _=>rfl) (fun _=>rfl) ?_
 refine s_rest_new (res:=vecA) (noF:Int→Option (Option Addr)) (noF:Int→Option (List Int)) (fun _=>rfl) (fun _=>rfl) ?_
 refine s_rest_new (res:=keptA) (noF:Int × Int→Option (Option Addr)) (noF:Int × Int→Option (List Int × Int)) (fun _=>rfl) (fun _=>rfl) ?_
 refine df_fold (b:=bd) (fNew th va vo lk pl) (pa:=nbp) (pc:=nbc) (po:=qa) (poc:=qc) (cb:=nb) (m1:=m1) (m2:=m2) (m3:=m3) (m4:=m4) (va:=ga) (vc:=gc) (V:=GV) Ts (by rw [fNew,hnv,Int.toNat_natCast];rfl) (by exact hn.symm) (by rw [hGV,List.length_replicate]) (by rw [hGV,List.length_replicate]) ?_
 refine ret2 rfl rfl rfl ((bd,(nbp,nbc),qa,qc)) (by first | rfl | (first | rfl | (congr 1;done) | (congr 1 <;> first | rfl | omega | (simp;done) | (simp;omega)))) (by trivial) ?_
 exact Tf
theorem newbad_spec (th va vo lk:Int) (pl:List Int) (ao:Option Addr) (n c:Nat) (A:HProp) (hr:RdS A ao (pl.flatMap encZ)) (hn:pl.length=n) (hb:n≤4000000) (hok:¬ OkS th va vo lk pl):Spec Try.prog 9 [.agg #[.int .i64 th,.int .i64 va,.int .i64 vo,.int .i64 lk,.slice ao n c]] [A] (fun (_:Unit)=>.tuple #[.pointer none,.int .i64 5]) (fun _=>True) (fun _=>[A]):=by
 refine kP (n:=52) Try.func9 rfl rfl rfl ?_
 intro Γ w0
 simp only [argE,List.cons_append,List.nil_append,Nat.zero_add,Nat.reduceAdd]
 refine qG (qC ((.l 0 [] (.q 1 (.q 2 (.done))))) Kr ?_)
 refine sX rfl rfl rfl rfl (us:=[_,_,_,_,_]) rfl ?_
 intro b1
 refine qV (qR rfl rfl rfl rfl (qR rfl rfl rfl rfl (qS (qQ (qG (qC (.q 0 ((.l 1 [] (.q 2 (.q 3 (.q 4 (.q 5 (.q 6 (.done))))))))) Kr ?_))))))
 refine kN rfl rfl rfl rfl α'25 ζ'25 Tk 0 (us:=[_,_,_,_,_]) Az rfl rfl ?_
 have sp_2:=Fe.newbad_spec th va vo lk pl ao n c A (hr) Ln Om hok
 refine qM rfl rfl rfl rfl rfl rfl Try.call27 (sp_2) Ts ?_
 rintro ⟨⟩ -
 try simp only [List.cons_append,List.nil_append]
 refine qV (qK rfl rfl rfl rfl (kW rfl rfl rfl rfl rfl (kW rfl rfl rfl rfl rfl (qR rfl rfl rfl rfl (qR rfl rfl rfl rfl (qS (qW [1,4,5] (e':=[(1,_),(4,_),(5,_)]) rfl ?_)))))))
 refine qQ (qG (qG (qC (.q 0 (.q 1 (.done))) Kr ?_)))
 refine qK rfl rfl rfl rfl (qN rfl rfl rfl rfl rfl (b_neq _ _ _ _) ?_)
 refine kH 13 rfl (v':=.bool true) (by first | rfl | simp) ?_
 refine qS (qQ (cN rfl ?_))
 refine qG (qC (.q 0 (.q 1 (.q 2 (.done)))) Kr ?_)
 refine qK rfl rfl rfl rfl (qR rfl rfl rfl rfl (qR rfl rfl rfl rfl (qS (qW [2,3] (e':=[(2,_),(3,_)]) rfl ?_))))
 refine qQ (qJ (qD (ret2 rfl rfl rfl (()) (by first | rfl | (first | rfl | (congr 1;done) | (congr 1 <;> first | rfl | omega | (simp;done) | (simp;omega)))) (by trivial) ?_)))
 exact Tf
end Go.Ab.Fa
set_option linter.unusedVariables false
set_option linter.unusedSimpArgs false
set_option maxRecDepth 100000
namespace Go.Ab.Fa
open Go Go.Proofs Go.Ab Go.Ab.Fe Go.Ab.Vc Go.Ab.Dj
def xk0:FS:=fNew 2 1 0 0 []
def ek:List T3:=[(7,0,1),(2,0,0),(2,1,0),(10,0,0)]
def xk3:FS:=fAll xk0 (ek.take 3)
theorem okk:OkS 2 1 0 0 []:=okS_iff.2 (by decide)
theorem xk0_inv:FInv xk0:=new_finv okk (new_inv okk)
theorem xk3_inv:FInv xk3:=fAll_inv xk0_inv _
theorem ek_can:(canFE (fAll xk0 (ek.take 0)) (7,0,1)∧canFE (fAll xk0 (ek.take 1)) (2,0,0)∧canFE (fAll xk0 (ek.take 2)) (2,1,0))∧¬ canFE (fAll xk0 (ek.take 3)) (10,0,0):=by decide +kernel
theorem ek_three:∀ i:Nat,i≤4→okFAll xk0 (ek.take i)→(i < 4→∀ e,ek[i]?=some e→¬ canFE (fAll xk0 (ek.take i)) e)→i=3:=by
  intro i h1 ho h2
  obtain ⟨⟨c0,c1,c2⟩,c3⟩:=ek_can
  rcases (show i=0∨i=1∨i=2∨i=3∨i=4 by omega) with rfl | rfl | rfl | rfl | rfl
  · exact absurd c0 (h2 (by decide) _ rfl)
  · exact absurd c1 (h2 (by decide) _ rfl)
  · exact absurd c2 (h2 (by decide) _ rfl)
  · rfl
  · exact absurd (ho 3 (10,0,0) rfl) c3
theorem xk3_flags:flFF xk3.vs=[(0,2)]:=by decide +kernel
theorem clocks_same (xs ys:List Int) (ao bo:Option Addr) (n m c d:Nat) (A:HProp) (hn:xs.length=n) (hr:RdS A ao (xs.flatMap encU)) (hm:ys.length=m) (hr2:RdS A bo (ys.flatMap encU)) (hb:n≤4000000000000):Spec Try.prog 60 [.slice ao n c,.slice bo m d] [A] (fun (_:Unit)=>.bool (decide (xs=ys))) (fun _=>True) (fun _=>[A]):=by
 refine kP (n:=26) Try.func60 rfl rfl rfl ?_
 intro Γ w0
 simp only [argE,List.cons_append,List.nil_append,Nat.zero_add,Nat.reduceAdd]
 refine qG (qC (.q 0 (.done)) Kr ?_)
 refine qR rfl rfl rfl rfl (qS (qQ (qG (qG (qC (.q 0 (.q 1 (.q 2 (.q 3 (.q 4 (.done)))))) Kr ?_)))))
 refine qK rfl rfl rfl rfl (cH rfl rfl rfl rfl υ'50 ?_)
 refine qK rfl rfl rfl rfl (cH rfl rfl rfl rfl υ'50 ?_)
 refine qN rfl rfl rfl rfl rfl (b_neq _ _ _ _) ?_
 refine qS (qW [0,1,10] (e':=[(0,_),(1,_),(10,_)]) rfl ?_)
 refine qQ ?_
 refine qB rfl (fun hne=>?_) (fun hne=>?_)
 ·
  refine qG (qC (.q 0 (.done)) Kr ?_)
  refine qR rfl rfl rfl rfl (qS (qQ (qJ (qD (cR rfl rfl (()) (by congr 1;symm;simp only [decide_eq_false_iff_not];intro e;rw [e] at hn;omega) (by trivial) ?_)))))
  exact Tf
 refine qF (qQ (qG (qG (qC (.q 0 (.done)) Kr ?_))))
 refine qR rfl rfl rfl rfl (qS (qQ (kS ?_)))
 have hnm:n=m:=by omega
 subst hnm
 refine cD (α:=Nat) (fun (i:Nat)=>i≤n∧(xs.take i=ys.take i)) (fun (i:Nat)=>[(5,.int .i64 ((i:Nat):Int))]) (fun (i:Nat)=>[]) (fun (i:Nat)=>n - i) [0,1] (er:=[(0,_),(1,_)]) rfl (0) ?_ (by exact ⟨rfl,trivial⟩) (by (try dsimp only);(try simp only [Nat.add_zero,Nat.zero_add]);(repeat ((with_reducible apply Z2);focus (first | (with_reducible (repeat (first | exact Z0 | apply Z1));done) | (repeat (first | exact Z0 | apply Z1)))));exact Z3) ?_
 · exact ⟨Nat.zero_le _,rfl⟩
 rintro i ⟨hle_i,ht⟩
 try simp only [List.cons_append,List.nil_append]
 refine qG (qG (qC (.q 0 (.q 1 (.q 2 (.q 3 (.done))))) Kr ?_))
 refine qK rfl rfl rfl rfl (qK rfl rfl rfl rfl (cH rfl rfl rfl rfl υ'50 ?_))
 refine qN rfl rfl rfl rfl rfl (sK _ _ _ _) ?_
 refine qS (qQ ?_)
 refine qB rfl (fun hlt=>?_) (fun hlt=>?_)
 ·
  refine qF (qQ (qG (kS (qG (kX rfl (.q 0 (.q 1 (.q 2 (.q 3 (.q 4 (.q 5 (.q 6 (.q 7 (.q 8 (.done)))))))))) Kr ?_)))))
  refine qK rfl rfl rfl rfl (qK rfl rfl rfl rfl ?_)
  obtain ⟨x,hx⟩:=cP (l:=xs) (i:=i) (by first | omega | (simp;done) | (simp;omega))
  refine rC (sz:=0) (k:=i) rfl rfl rfl rfl rfl υ'50 ζ'48 (hr) hx encU_len (by first | rfl | omega) Om ?_
  intro ib19 io19 _ hd19
  refine q_load rfl rfl rfl rfl α'48 Tk (hd19 0 (.int .u64 x) rfl) ?_
  refine qK rfl rfl rfl rfl (qK rfl rfl rfl rfl ?_)
  obtain ⟨y,hy⟩:=cP (l:=ys) (i:=i) (by first | omega | (simp;done) | (simp;omega))
  refine rC (sz:=0) (k:=i) rfl rfl rfl rfl rfl υ'50 ζ'48 (hr2) hy encU_len (by first | rfl | omega) Om ?_
  intro ib23 io23 _ hd23
  refine q_load rfl rfl rfl rfl α'48 Tk (hd23 0 (.int .u64 y) rfl) ?_
  refine qN rfl rfl rfl rfl rfl (b_neq _ _ _ _) ?_
  refine qS (qW [0,1,5,25] (e':=[(0,_),(1,_),(5,_),(25,_)]) rfl ?_)
  refine qQ ?_
  refine qB rfl (fun hxy=>?_) (fun hxy=>?_)
  ·
   refine qG (qC (.q 0 (.done)) Kr ?_)
   refine qR rfl rfl rfl rfl (qS (qW [4] (e':=[(4,_)]) rfl ?_))
   refine qQ (qJ (cC (qD (qD (cC (qD (cR rfl rfl (()) (by congr 1;symm;simp only [decide_eq_false_iff_not];intro e;rw [e,hy] at hx;cases hx;exact hxy rfl) (by trivial) ?_)))))))
   exact Tf
  have hxy:x=y:=Classical.byContradiction hxy
  refine qF (kK (qQ (qC (.q 0 (.q 1 (.q 2 (.done)))) Kr ?_)))
  refine qK rfl rfl rfl rfl (qN rfl rfl rfl rfl rfl (cV _ (by exact kG Om Om)) ?_)
  refine qR rfl rfl rfl rfl (qS (qQ ?_))
  refine cQ (x:=i) (i+1) ?_ ?_ ?_ ?_
  · exact ⟨by omega,by rw [List.take_add_one,List.take_add_one,hx,hy,ht,hxy]⟩
  · show n - (i+1) < n - i;omega
  · exact ⟨rfl,rfl,rfl,trivial⟩
  · (try simp only [List.cons_append,List.nil_append]);exact Tf
 refine cM (qZ (qZ (kV (qQ (qG (qC (.q 0 (.done)) Kr ?_))))))
 refine qR rfl rfl rfl rfl (qS (qW [4] (e':=[(4,_)]) rfl ?_))
 refine qQ (qJ (cR rfl rfl (()) (by congr 1;symm;simp only [decide_eq_true_eq];obtain rfl:i=n:=Om;rw [List.take_of_length_le Om,List.take_of_length_le Om] at ht;exact ht) (by trivial) ?_))
 exact Tf
theorem fflags_same (xs ys:List T2) (ao bo:Option Addr) (n m c d:Nat) (A:HProp) (hn:xs.length=n) (hr:RdS A ao (xs.flatMap enc2)) (hm:ys.length=m) (hr2:RdS A bo (ys.flatMap enc2)) (hb:n≤4000000000000):Spec Try.prog 21 [.slice ao n c,.slice bo m d] [A] (fun (_:Unit)=>.bool (decide (xs=ys))) (fun _=>True) (fun _=>[A]):=by
 refine kP (n:=26) Try.func21 rfl rfl rfl ?_
 intro Γ w0
 simp only [argE,List.cons_append,List.nil_append,Nat.zero_add,Nat.reduceAdd]
 refine qG (qC (.q 0 (.done)) Kr ?_)
 refine qR rfl rfl rfl rfl (qS (qQ (qG (qG (qC (.q 0 (.q 1 (.q 2 (.q 3 (.q 4 (.done)))))) Kr ?_)))))
 refine qK rfl rfl rfl rfl (cH rfl rfl rfl rfl υ'61 ?_)
 refine qK rfl rfl rfl rfl (cH rfl rfl rfl rfl υ'61 ?_)
 refine qN rfl rfl rfl rfl rfl (b_neq _ _ _ _) ?_
 refine qS (qW [0,1,10] (e':=[(0,_),(1,_),(10,_)]) rfl ?_)
 refine qQ ?_
 refine qB rfl (fun hne=>?_) (fun hne=>?_)
 ·
  refine qG (qC (.q 0 (.done)) Kr ?_)
  refine qR rfl rfl rfl rfl (qS (qQ (qJ (qD (cR rfl rfl (()) (by congr 1;symm;simp only [decide_eq_false_iff_not];intro e;rw [e] at hn;omega) (by trivial) ?_)))))
  exact Tf
 refine qF (qQ (qG (qG (qC (.q 0 (.done)) Kr ?_))))
 refine qR rfl rfl rfl rfl (qS (qQ (kS ?_)))
 have hnm:n=m:=by omega
 subst hnm
 refine cD (α:=Nat) (fun (i:Nat)=>i≤n∧(xs.take i=ys.take i)) (fun (i:Nat)=>[(5,.int .i64 ((i:Nat):Int))]) (fun (i:Nat)=>[]) (fun (i:Nat)=>n - i) [0,1] (er:=[(0,_),(1,_)]) rfl (0) ?_ (by exact ⟨rfl,trivial⟩) (by (try dsimp only);(try simp only [Nat.add_zero,Nat.zero_add]);(repeat ((with_reducible apply Z2);focus (first | (with_reducible (repeat (first | exact Z0 | apply Z1));done) | (repeat (first | exact Z0 | apply Z1)))));exact Z3) ?_
 · exact ⟨Nat.zero_le _,rfl⟩
 rintro i ⟨hle_i,ht⟩
 try simp only [List.cons_append,List.nil_append]
 refine qG (qG (qC (.q 0 (.q 1 (.q 2 (.q 3 (.done))))) Kr ?_))
 refine qK rfl rfl rfl rfl (qK rfl rfl rfl rfl (cH rfl rfl rfl rfl υ'61 ?_))
 refine qN rfl rfl rfl rfl rfl (sK _ _ _ _) ?_
 refine qS (qQ ?_)
 refine qB rfl (fun hlt=>?_) (fun hlt=>?_)
 ·
  refine qF (qQ (qG (kS (qG (kX rfl (.q 0 (.q 1 (.q 2 (.q 3 (.q 4 (.q 5 (.q 6 (.q 7 (.q 8 (.done)))))))))) Kr ?_)))))
  refine qK rfl rfl rfl rfl (qK rfl rfl rfl rfl ?_)
  obtain ⟨x,hx⟩:=cP (l:=xs) (i:=i) (by first | omega | (simp;done) | (simp;omega))
  refine rC (sz:=1) (k:=i) rfl rfl rfl rfl rfl υ'61 ζ'101 (hr) hx enc2_len (by first | rfl | omega) Om ?_
  intro ib19 io19 _ hd19
  refine q_loadN (vs:=[_,_]) rfl rfl rfl rfl α'101 ζ'101 Tk (hd19) rfl ?_
  refine qK rfl rfl rfl rfl (qK rfl rfl rfl rfl ?_)
  obtain ⟨y,hy⟩:=cP (l:=ys) (i:=i) (by first | omega | (simp;done) | (simp;omega))
  refine rC (sz:=1) (k:=i) rfl rfl rfl rfl rfl υ'61 ζ'101 (hr2) hy enc2_len (by first | rfl | omega) Om ?_
  intro ib23 io23 _ hd23
  refine q_loadN (vs:=[_,_]) rfl rfl rfl rfl α'101 ζ'101 Tk (hd23) rfl ?_
  refine q_neS rfl rfl rfl rfl rfl Kr (eqc_struct υ'101 Kr (eqf_cons rfl α'3 rfl rfl (eqc_int υ'3) (eqf_last rfl α'3 rfl rfl (eqc_int υ'3)))) ?_
  refine kH 25 rfl (v':=.bool (decide (x≠y))) (by first | (congr 1;done) | (congr 1;rw [Bool.eq_iff_iff];simp [Prod.ext_iff,and_assoc])) ?_
  refine qS (qW [0,1,5,25] (e':=[(0,_),(1,_),(5,_),(25,_)]) rfl ?_)
  refine qQ ?_
  refine qB rfl (fun hxy=>?_) (fun hxy=>?_)
  ·
   refine qG (qC (.q 0 (.done)) Kr ?_)
   refine qR rfl rfl rfl rfl (qS (qW [4] (e':=[(4,_)]) rfl ?_))
   refine qQ (qJ (cC (qD (qD (cC (qD (cR rfl rfl (()) (by congr 1;symm;simp only [decide_eq_false_iff_not];intro e;rw [e,hy] at hx;cases hx;exact hxy rfl) (by trivial) ?_)))))))
   exact Tf
  have hxy:x=y:=Classical.byContradiction hxy
  refine qF (kK (qQ (qC (.q 0 (.q 1 (.q 2 (.done)))) Kr ?_)))
  refine qK rfl rfl rfl rfl (qN rfl rfl rfl rfl rfl (cV _ (by exact kG Om Om)) ?_)
  refine qR rfl rfl rfl rfl (qS (qQ ?_))
  refine cQ (x:=i) (i+1) ?_ ?_ ?_ ?_
  · exact ⟨by omega,by rw [List.take_add_one,List.take_add_one,hx,hy,ht,hxy]⟩
  · show n - (i+1) < n - i;omega
  · exact ⟨rfl,rfl,rfl,trivial⟩
  · (try simp only [List.cons_append,List.nil_append]);exact Tf
 refine cM (qZ (qZ (kV (qQ (qG (qC (.q 0 (.done)) Kr ?_))))))
 refine qR rfl rfl rfl rfl (qS (qW [4] (e':=[(4,_)]) rfl ?_))
 refine qQ (qJ (cR rfl rfl (()) (by congr 1;symm;simp only [decide_eq_true_eq];obtain rfl:i=n:=Om;rw [List.take_of_length_le Om,List.take_of_length_le Om] at ht;exact ht) (by trivial) ?_))
 exact Tf
theorem state_same (wa ra wb rb na nb ca cb:Nat) (sa sb:Bool) (aa ab:Option Addr) (xa xb:List Int) (A:HProp) (hna:xa.length=na) (hra:RdS A aa (xa.flatMap encU)) (hnb:xb.length=nb) (hrb:RdS A ab (xb.flatMap encU)) (hb:na≤4000000000000):Spec Try.prog 59 [.agg #[.int .u64 ((wa:Nat):Int),.int .u64 ((ra:Nat):Int),.bool sa,.slice aa na ca],.agg #[.int .u64 ((wb:Nat):Int),.int .u64 ((rb:Nat):Int),.bool sb,.slice ab nb cb]] [A] (fun (_:Unit)=>.bool (decide (wa=wb∧ra=rb∧sa=sb∧xa=xb))) (fun _=>True) (fun _=>[A]):=by
 refine kP (n:=31) Try.func59 rfl rfl rfl ?_
 intro Γ w0
 simp only [argE,List.cons_append,List.nil_append,Nat.zero_add,Nat.reduceAdd]
 refine qG (qC ((.l 0 [] ((.l 1 [] (.q 2 (.done)))))) Kr ?_)
 refine sX rfl rfl rfl rfl (us:=[_,_,_,_]) rfl ?_
 intro b2
 refine qV (sX rfl rfl rfl rfl (us:=[_,_,_,_]) rfl ?_)
 intro b3
 refine qV (qR rfl rfl rfl rfl (qS (qQ (qG (qC (.q 0 (.q 1 (.q 2 (.q 3 (.q 4 (.q 5 (.q 6 (.q 7 (.q 8 (.q 9 (.q 10 (.q 11 (.q 12 (.q 13 (.q 14 (.q 15 (.q 16 (.q 17 (.q 18 (.q 19 (.q 20 (.q 21 (.q 22 (.q 23 ((.l 24 [] (.q 25 (.q 26 (.done))))))))))))))))))))))))))))) Kr ?_)))))
 refine qL (k:=0) rfl rfl rfl rfl υ'52 rfl ζ'49 rfl ?_
 refine qP (j:=0) rfl rfl rfl rfl α'49 Tk Az (by rfl) ?_
 refine qL (k:=0) rfl rfl rfl rfl υ'52 rfl ζ'49 rfl ?_
 refine qP (j:=0) rfl rfl rfl rfl α'49 Tk Az (by rfl) ?_
 refine qN rfl rfl rfl rfl rfl (cS _ _ _ _) ?_
 refine qK rfl rfl rfl rfl ?_
 refine cL 10 rfl (fun h1=>?_) (fun h1=>?_)
 ·
  refine qL (k:=1) rfl rfl rfl rfl υ'52 rfl ζ'49 rfl ?_
  refine qP (j:=1) rfl rfl rfl rfl α'49 Tk Az (by rfl) ?_
  refine qL (k:=1) rfl rfl rfl rfl υ'52 rfl ζ'49 rfl ?_
  refine qP (j:=1) rfl rfl rfl rfl α'49 Tk Az (by rfl) ?_
  refine qN rfl rfl rfl rfl rfl (cS _ _ _ _) ?_
  refine kZ rfl rfl rfl rfl rfl (qK rfl rfl rfl rfl ?_)
  refine cL 17 rfl (fun h2=>?_) (fun h2=>?_)
  ·
   refine qL (k:=2) rfl rfl rfl rfl υ'52 rfl ζ'4 rfl ?_
   refine qP (j:=2) rfl rfl rfl rfl α'4 Tk Az (by rfl) ?_
   refine qL (k:=2) rfl rfl rfl rfl υ'52 rfl ζ'4 rfl ?_
   refine qP (j:=2) rfl rfl rfl rfl α'4 Tk Az (by rfl) ?_
   refine q_eqb rfl rfl rfl rfl rfl υ'4 ?_
   refine kZ rfl rfl rfl rfl rfl (qK rfl rfl rfl rfl ?_)
   refine s_bool 24 rfl (fun h3=>?_) (fun h3=>?_)
   ·
    try simp only [Bool.and_eq_true,Bool.or_eq_true,Bool.not_eq_true',Bool.not_eq_false',Bool.and_eq_false_iff,Bool.or_eq_false_iff,decide_eq_true_eq,decide_eq_false_iff_not] at h3
    refine qL (k:=3) rfl rfl rfl rfl υ'52 rfl ζ'50 rfl ?_
    refine qP (j:=3) rfl rfl rfl rfl α'50 Tk Az (by rfl) ?_
    refine qL (k:=3) rfl rfl rfl rfl υ'52 rfl ζ'50 rfl ?_
    refine qP (j:=3) rfl rfl rfl rfl α'50 Tk Az (by rfl) ?_
    have sp_1:=clocks_same xa xb aa ab na nb ca cb A Ln (hra) Ln (hrb) Om
    refine qM rfl rfl rfl rfl rfl rfl Try.call60 (sp_1) Ts ?_
    rintro ⟨⟩ -
    try simp only [List.cons_append,List.nil_append]
    refine qV (kZ rfl rfl rfl rfl rfl (qR rfl rfl rfl rfl (qS (qW [4] (e':=[(4,_)]) rfl ?_))))
    refine qQ (qJ (cR rfl rfl (()) (by congr 1;first | (symm;rw [decide_eq_false_iff_not];rintro ⟨q1,q2,q3,q4⟩;first | exact h1 (by rw [q1]) | exact h2 (by rw [q2]) | (rw [q3] at h3;simp at h3)) | (rw [decide_eq_decide];exact ⟨fun q=>⟨by omega,by omega,by simpa using h3,q⟩,fun q=>q.2.2.2⟩)) (by trivial) ?_))
    exact Tf
   try simp only [Bool.and_eq_true,Bool.or_eq_true,Bool.not_eq_true',Bool.not_eq_false',Bool.and_eq_false_iff,Bool.or_eq_false_iff,decide_eq_true_eq,decide_eq_false_iff_not] at h3
   refine qY rfl rfl rfl rfl (qY rfl rfl rfl rfl (qY rfl rfl rfl rfl (qY rfl rfl rfl rfl (sZ rfl rfl rfl rfl ?_))))
   refine kC rfl rfl rfl rfl rfl (qR rfl rfl rfl rfl (qS (qW [4] (e':=[(4,_)]) rfl ?_)))
   refine qQ (qJ (cR rfl rfl (()) (by congr 1;first | (symm;rw [decide_eq_false_iff_not];rintro ⟨q1,q2,q3,q4⟩;first | exact h1 (by rw [q1]) | exact h2 (by rw [q2]) | (rw [q3] at h3;simp at h3)) | (rw [decide_eq_decide];exact ⟨fun q=>⟨by omega,by omega,by simpa using h3,q⟩,fun q=>q.2.2.2⟩)) (by trivial) ?_))
   exact Tf
  refine qY rfl rfl rfl rfl (qY rfl rfl rfl rfl (qY rfl rfl rfl rfl (qY rfl rfl rfl rfl (qY rfl rfl rfl rfl (kC rfl rfl rfl rfl rfl (qK rfl rfl rfl rfl (qY rfl rfl rfl rfl (qY rfl rfl rfl rfl ?_))))))))
  refine qY rfl rfl rfl rfl (qY rfl rfl rfl rfl (sZ rfl rfl rfl rfl ?_))
  refine kC rfl rfl rfl rfl rfl (qR rfl rfl rfl rfl (qS (qW [4] (e':=[(4,_)]) rfl ?_)))
  refine qQ (qJ (cR rfl rfl (()) (by congr 1;first | (symm;rw [decide_eq_false_iff_not];rintro ⟨q1,q2,q3,q4⟩;first | exact h1 (by rw [q1]) | exact h2 (by rw [q2]) | (rw [q3] at h3;simp at h3)) | (rw [decide_eq_decide];exact ⟨fun q=>⟨by omega,by omega,by simpa using h3,q⟩,fun q=>q.2.2.2⟩)) (by trivial) ?_))
  exact Tf
 refine qY rfl rfl rfl rfl (qY rfl rfl rfl rfl (qY rfl rfl rfl rfl (qY rfl rfl rfl rfl (qY rfl rfl rfl rfl (kC rfl rfl rfl rfl rfl (qK rfl rfl rfl rfl (qY rfl rfl rfl rfl (qY rfl rfl rfl rfl ?_))))))))
 refine qY rfl rfl rfl rfl (qY rfl rfl rfl rfl (qY rfl rfl rfl rfl (kC rfl rfl rfl rfl rfl (qK rfl rfl rfl rfl (qY rfl rfl rfl rfl (qY rfl rfl rfl rfl (qY rfl rfl rfl rfl (qY rfl rfl rfl rfl ?_))))))))
 refine sZ rfl rfl rfl rfl ?_
 refine kC rfl rfl rfl rfl rfl (qR rfl rfl rfl rfl (qS (qW [4] (e':=[(4,_)]) rfl ?_)))
 refine qQ (qJ (cR rfl rfl (()) (by congr 1;first | (symm;rw [decide_eq_false_iff_not];rintro ⟨q1,q2,q3,q4⟩;first | exact h1 (by rw [q1]) | exact h2 (by rw [q2]) | (rw [q3] at h3;simp at h3)) | (rw [decide_eq_decide];exact ⟨fun q=>⟨by omega,by omega,by simpa using h3,q⟩,fun q=>q.2.2.2⟩)) (by trivial) ?_))
 exact Tf
theorem known_spec:Spec Try.prog 11 [] [] (fun (_:Unit)=>.bool true) (fun _=>True) (fun _=>[]):=by
 refine kP (n:=47) Try.func11 rfl rfl rfl ?_
 intro Γ w0
 simp only [argE,List.cons_append,List.nil_append,Nat.zero_add,Nat.reduceAdd]
 refine qG (qC (.q 0 (.done)) Kr ?_)
 refine qR rfl rfl rfl rfl (qS (qQ (qG (qC (.q 0 ((.l 1 [] (.q 2 (.q 3 (.q 4 (.q 5 (.q 6 (.done))))))))) Kr ?_))))
 refine cX rfl rfl rfl rfl (vs:=[_,_,_,_,_]) (kM υ'25 Try.zeroValue25 (ps:=[(0,1),(1,1),(2,1),(3,1),(4,1)]) ⟨rfl,ζ'3,rfl,ζ'3,rfl,ζ'3,rfl,ζ'3,rfl,ζ'23,trivial⟩ rfl) ?_
 refine kF (fun _ h=>Bun.fold (Γ:=[]) h) ?_
 have sp_1:=Fa.new_spec 2 1 0 0 ([]) none 0 0 (Bun []) (.inl rfl) (by rfl) Om okk
 refine qM rfl rfl rfl rfl rfl rfl κ'9 (sp_1) Ts ?_
 rintro ⟨d,⟨dpa,dpc⟩,dpo,dpoc⟩ -
 try simp only [List.cons_append,List.nil_append]
 refine qV (qK rfl rfl rfl rfl (kW rfl rfl rfl rfl rfl (kW rfl rfl rfl rfl rfl (qR rfl rfl rfl rfl (qR rfl rfl rfl rfl (qS ?_))))))
 rw [show fNew 2 1 0 0 []=xk0 from rfl]
 refine qW [1,2] (e':=[(1,_),(2,_)]) rfl ?_
 refine qQ (qG (qG (qC (.q 0 (.q 1 (.q 2 (.q 3 (.q 4 (.q 5 (.done))))))) Kr ?_)))
 refine qK rfl rfl rfl rfl (cY rfl rfl rfl rfl υ'27 ?_)
 refine kH 12 rfl (v':=.bool false) rfl ?_
 refine qK rfl rfl rfl rfl (qK rfl rfl rfl rfl (qN rfl rfl rfl rfl rfl (b_neq _ _ _ _) ?_))
 refine kH 15 rfl (v':=.bool false) (by first | rfl | simp) ?_
 refine kC rfl rfl rfl rfl rfl (qS (qW [1,16] (e':=[(1,_),(16,_)]) rfl ?_))
 refine qQ (kB rfl ?_)
 refine qF (qQ (qG (qC (.q 0 (.q 1 (.q 2 (.q 3 (.q 4 ((.l 5 [] ((.l 6 [] (.q 7 (.q 8 (.q 9 (.q 10 (.q 11 (.done))))))))))))))) Kr ?_)))
 refine qK rfl rfl rfl rfl (cX rfl rfl rfl rfl (vs:=[_,_,_]) (kM υ'36 ω'36 (ps:=[(0,1),(1,1),(2,1)]) ⟨rfl,ζ'34,rfl,ζ'3,rfl,ζ'3,trivial⟩ rfl) ?_)
 refine cX rfl rfl rfl rfl (vs:=[_,_,_]) (kM υ'36 ω'36 (ps:=[(0,1),(1,1),(2,1)]) ⟨rfl,ζ'34,rfl,ζ'3,rfl,ζ'3,trivial⟩ rfl) ?_
 refine cX rfl rfl rfl rfl (vs:=[_,_,_]) (kM υ'36 ω'36 (ps:=[(0,1),(1,1),(2,1)]) ⟨rfl,ζ'34,rfl,ζ'3,rfl,ζ'3,trivial⟩ rfl) ?_
 refine cX rfl rfl rfl rfl (vs:=[_,_,_]) (kM υ'36 ω'36 (ps:=[(0,1),(1,1),(2,1)]) ⟨rfl,ζ'34,rfl,ζ'3,rfl,ζ'3,trivial⟩ rfl) ?_
 refine cG rfl rfl rfl rfl (vs:=[_,_,_,_,_,_,_,_,_,_,_,_]) (run_buildSl υ'26 ζ'36 ω'36 rfl rfl rfl rfl) ?_
 intro b23
 refine qV ?_
 have sp_2:=Fa.events_spec dpa dpc dpo dpoc d xk0 xk0_inv (by decide) ([]) rfl ek (some ⟨b23,0,none⟩) 4 4 (cells b23 0 [.int .i64 7,.int .i64 0,.int .i64 1,.int .i64 2,.int .i64 0,.int .i64 0,.int .i64 2,.int .i64 1,.int .i64 0,.int .i64 10,.int .i64 0,.int .i64 0]) (sW sC) Ln Om
 refine qM rfl rfl rfl rfl rfl rfl Try.call12 (sp_2) Ts ?_
 rintro i ⟨hi1,hi2,hi3⟩
 try simp only [List.cons_append,List.nil_append]
 refine qV ?_
 obtain rfl:=ek_three i hi1 hi2 hi3
 rw [show fAll xk0 (ek.take 3)=xk3 from rfl]
 refine qK rfl rfl rfl rfl (kW rfl rfl rfl rfl rfl (kW rfl rfl rfl rfl rfl (qR rfl rfl rfl rfl (qR rfl rfl rfl rfl (qS (qW [1,3,4] (e':=[(1,_),(3,_),(4,_)]) rfl ?_))))))
 refine qQ (qG (qC (.q 0 ((.l 1 [] (.q 2 (.done))))) Kr ?_))
 refine qK rfl rfl rfl rfl ?_
 have sp_3:=Fa.flags_spec dpa dpc dpo dpoc d xk3 xk3_inv
 refine qM rfl rfl rfl rfl rfl rfl κ'22 (sp_3) Ts ?_
 rintro ⟨fa,fc⟩ -
 try simp only [List.cons_append,List.nil_append]
 refine qV (qR rfl rfl rfl rfl (qS (qQ (qG ?_))))
 have hfl_:(flFF xk3.vs).length=1:=by rw [xk3_flags];rfl
 refine qC (.q 0 (.q 1 (.q 2 (.q 3 (.q 4 (.q 5 (.q 6 (.q 7 (.q 8 (.q 9 (.q 10 (.q 11 (.q 12 (.q 13 (.q 14 (.q 15 (.q 16 (.q 17 (.q 18 (.done)))))))))))))))))))) Kr ?_
 refine qK rfl rfl rfl rfl (qN rfl rfl rfl rfl rfl (cS _ _ _ _) ?_)
 refine kH 30 rfl (v':=.bool true) (by first | rfl | simp) ?_
 refine qK rfl rfl rfl rfl (qK rfl rfl rfl rfl (qN rfl rfl rfl rfl rfl (cS _ _ _ _) ?_))
 refine kH 33 rfl (v':=.bool true) (by first | rfl | simp) ?_
 refine kZ rfl rfl rfl rfl rfl (qK rfl rfl rfl rfl (qK rfl rfl rfl rfl (cH rfl rfl rfl rfl υ'61 ?_)))
 refine qN rfl rfl rfl rfl rfl (cS _ _ _ _) ?_
 refine kH 38 rfl (v':=.bool true) (by rw [hfl_];rfl) ?_
 refine kZ rfl rfl rfl rfl rfl (qK rfl rfl rfl rfl (qK rfl rfl rfl rfl (kY (sz:=1) (k:=0) (enc:=enc2) (xs:=(flFF xk3.vs)) rfl rfl rfl rfl rfl υ'61 ζ'101 (show (flFF xk3.vs)[0]?=some ((0:Int),(2:Int)) by rw [xk3_flags];rfl) (by first | rfl | omega) Om Tk ?_)))
 intro ib42 io42 ha42 hl42 hc42
 refine q_loadN_O (j:=0) (k':=0) (us:=[_,_]) (enc:=enc2) (off:=io42) rfl rfl rfl rfl α'101 ζ'101 ha42 enc2_len (show (flFF xk3.vs)[0]?=some ((0:Int),(2:Int)) by rw [xk3_flags];rfl) Tk (by first | rfl | exact (Nat.add_zero _).symm | omega) (by rfl) rfl ?_
 refine cX rfl rfl rfl rfl (vs:=[_,_]) (kM υ'101 ω'101 (ps:=[(0,1),(1,1)]) ⟨rfl,ζ'3,rfl,ζ'3,trivial⟩ rfl) ?_
 refine q_eqS rfl rfl rfl rfl rfl Kr (eqc_struct υ'101 Kr (eqf_cons rfl α'3 rfl rfl (eqc_int υ'3) (eqf_last rfl α'3 rfl rfl (eqc_int υ'3)))) ?_
 refine kH 45 rfl (v':=.bool (decide (((0:Int),(2:Int))=(0,2)))) (by first | (congr 1;done) | (congr 1;rw [Bool.eq_iff_iff];simp [Prod.ext_iff,and_assoc])) ?_
 refine kH 45 rfl (v':=.bool true) (by rw [decide_eq_true rfl]) ?_
 refine kZ rfl rfl rfl rfl rfl (qR rfl rfl rfl rfl (qS (qW [0] (e':=[(0,_)]) rfl ?_)))
 refine qQ (qJ (cR rfl rfl (()) (by first | rfl | (first | rfl | (congr 1;done) | (congr 1 <;> first | rfl | omega | (simp;done) | (simp;omega)))) (by trivial) ?_))
 exact Tf
end Go.Ab.Fa
set_option linter.unusedVariables false
set_option linter.unusedSimpArgs false
set_option maxRecDepth 100000
namespace Go.Ab.Fr
open Go Go.Proofs Go.Ab Go.Ab.Fe Go.Ab.Vc Go.Ab.Dj Go.Ab.Fa
def withL (l:List Int) (i:Nat) (x:Int):List Int:=(l++List.replicate (i+1 - l.length) 0).set i x
def jndL (a b:List Int):List Int:=(List.range (max a.length b.length)).map fun k=>max (a.getD k 0) (b.getD k 0)
theorem app_getD (l:List Int) (n k:Nat):(l++List.replicate n (0:Int)).getD k 0=l.getD k 0:=by
  simp only [List.getD_eq_getElem?_getD]
  rcases Nat.lt_or_ge k l.length with h | h
  · rw [List.getElem?_append_left h]
  · rw [List.getElem?_append_right h,List.getElem?_eq_none h,List.getElem?_replicate];split <;> rfl
theorem with_g (l:List Int) (i:Nat) (x:Int) (k:Nat):(withL l i x).getD k 0=if k=i then x else l.getD k 0:=by
  unfold withL
  have hl:i < (l++List.replicate (i+1 - l.length) (0:Int)).length:=by simp;omega
  by_cases h:k=i
  · subst h
    rw [if_pos rfl,List.getD_eq_getElem?_getD,List.getElem?_set_self hl];rfl
  · rw [if_neg h,List.getD_eq_getElem?_getD,List.getElem?_set_ne (Ne.symm h),← List.getD_eq_getElem?_getD,app_getD]
theorem jnd_g (a b:List Int) (h:∀ k:Nat,0≤a.getD k 0∧0≤b.getD k 0) (k:Nat):(jndL a b).getD k 0=max (a.getD k 0) (b.getD k 0):=by
  unfold jndL
  rw [List.getD_eq_getElem?_getD,List.getElem?_map]
  rcases Nat.lt_or_ge k (max a.length b.length) with h1 | h1
  · rw [List.getElem?_range h1];rfl
  · rw [List.getElem?_eq_none (by simp;omega)]
    have e1:a.getD k 0=0:=by rw [List.getD_eq_getElem?_getD,List.getElem?_eq_none Om];rfl
    have e2:b.getD k 0=0:=by rw [List.getD_eq_getElem?_getD,List.getElem?_eq_none Om];rfl
    rw [e1,e2];rfl
theorem fill_set {A:List Int} {n k:Nat} (q:Int) (h:A.length=k) (hk:k < n):(A++List.replicate (n - k) 0).set k q=(A++[q])++List.replicate (n - (k+1)) 0:=by
  subst h
  rw [List.set_append_right _ _ (Nat.le_refl _),Nat.sub_self,show n - A.length=(n - (A.length+1))+1 from by omega,List.replicate_succ,List.set_cons_zero,List.append_assoc]
  rfl
theorem fill_get {A:List Int} {n k:Nat} (h:A.length=k) (hk:k < n):(A++List.replicate (n - k) 0)[k]?=some (0:Int):=by
  subst h
  rw [List.getElem?_append_right (Nat.le_refl _),Nat.sub_self,List.getElem?_replicate,if_pos Om]
theorem take_snocF {α:Type} {l:List α} {i:Nat} {a:α} (h:l[i]?=some a):l.take (i+1)=l.take i++[a]:=by rw [List.take_add_one,h];rfl
theorem getD_of {l:List Int} {k:Nat} {x:Int} (h:l[k]?=some x):l.getD k 0=x:=by rw [List.getD_eq_getElem?_getD,h];rfl
theorem getD_no {l:List Int} {k:Nat} (h:l.length≤k):l.getD k 0=0:=by rw [List.getD_eq_getElem?_getD,List.getElem?_eq_none h];rfl
theorem rreleases_spec (k:Int):Spec Try.prog 34 [.int .i64 k] [] (fun (_:Unit)=>.bool (decide (relK k))) (fun _=>True) (fun _=>[]):=by
 refine kP (n:=17) Try.func34 rfl rfl rfl ?_
 intro Γ w0
 simp only [argE,List.cons_append,List.nil_append,Nat.zero_add,Nat.reduceAdd]
 refine qG (qC (.q 0 (.done)) Kr ?_)
 refine qR rfl rfl rfl rfl (qS (qQ (qG (qC (.q 0 (.q 1 (.q 2 (.q 3 (.q 4 (.q 5 (.q 6 (.q 7 (.q 8 (.q 9 (.q 10 (.q 11 (.q 12 (.q 13 (.q 14 (.done)))))))))))))))) Kr ?_))))
 refine qK rfl rfl rfl rfl (qN rfl rfl rfl rfl rfl (cS _ _ _ _) ?_)
 refine qK rfl rfl rfl rfl ?_
 refine cL 5 rfl (fun g_1=>?_) (fun g_1=>?_)
 ·
  refine qY rfl rfl rfl rfl (qY rfl rfl rfl rfl (kZ rfl rfl rfl rfl rfl (qK rfl rfl rfl rfl (qY rfl rfl rfl rfl (qY rfl rfl rfl rfl (kZ rfl rfl rfl rfl rfl (qK rfl rfl rfl rfl (qY rfl rfl rfl rfl ?_))))))))
  refine qY rfl rfl rfl rfl (kZ rfl rfl rfl rfl rfl (qR rfl rfl rfl rfl (qS (qW [2] (e':=[(2,_)]) rfl ?_))))
  refine qQ (qJ (cR rfl rfl (()) (by congr 1;first | (symm;rw [decide_eq_true_eq];unfold relK;omega) | (rw [decide_eq_decide];unfold relK;omega)) (by trivial) ?_))
  exact Tf
 refine qK rfl rfl rfl rfl (qN rfl rfl rfl rfl rfl (cS _ _ _ _) ?_)
 refine kC rfl rfl rfl rfl rfl (qK rfl rfl rfl rfl ?_)
 refine cL 9 rfl (fun g_2=>?_) (fun g_2=>?_)
 ·
  refine qY rfl rfl rfl rfl (qY rfl rfl rfl rfl (kZ rfl rfl rfl rfl rfl (qK rfl rfl rfl rfl (qY rfl rfl rfl rfl (qY rfl rfl rfl rfl (kZ rfl rfl rfl rfl rfl (qR rfl rfl rfl rfl (qS ?_))))))))
  refine qW [2] (e':=[(2,_)]) rfl ?_
  refine qQ (qJ (cR rfl rfl (()) (by congr 1;first | (symm;rw [decide_eq_true_eq];unfold relK;omega) | (rw [decide_eq_decide];unfold relK;omega)) (by trivial) ?_))
  exact Tf
 refine qK rfl rfl rfl rfl (qN rfl rfl rfl rfl rfl (cS _ _ _ _) ?_)
 refine kC rfl rfl rfl rfl rfl (qK rfl rfl rfl rfl ?_)
 refine cL 13 rfl (fun g_3=>?_) (fun g_3=>?_)
 ·
  refine qY rfl rfl rfl rfl (qY rfl rfl rfl rfl (kZ rfl rfl rfl rfl rfl (qR rfl rfl rfl rfl (qS (qW [2] (e':=[(2,_)]) rfl ?_)))))
  refine qQ (qJ (cR rfl rfl (()) (by congr 1;first | (symm;rw [decide_eq_true_eq];unfold relK;omega) | (rw [decide_eq_decide];unfold relK;omega)) (by trivial) ?_))
  exact Tf
 refine qK rfl rfl rfl rfl (qN rfl rfl rfl rfl rfl (cS _ _ _ _) ?_)
 refine kC rfl rfl rfl rfl rfl (qR rfl rfl rfl rfl (qS (qW [2] (e':=[(2,_)]) rfl ?_)))
 refine qQ (qJ (cR rfl rfl (()) (by congr 1;first | (symm;rw [decide_eq_true_eq];unfold relK;omega) | (rw [decide_eq_decide];unfold relK;omega)) (by trivial) ?_))
 exact Tf
theorem at_spec (xs:List Int) (ao:Option Addr) (n c:Nat) (A:HProp) (hr:RdS A ao (xs.flatMap encU)) (hn:xs.length=n) (hb:n≤4000000000) (i:Nat):Spec Try.prog 35 [.slice ao n c,.int .i64 ((i:Nat):Int)] [A] (fun (_:Unit)=>.int .u64 (xs.getD i 0)) (fun _=>True) (fun _=>[A]):=by
 refine kP (n:=17) Try.func35 rfl rfl rfl ?_
 intro Γ w0
 simp only [argE,List.cons_append,List.nil_append,Nat.zero_add,Nat.reduceAdd]
 refine qG (qC (.q 0 (.done)) Kr ?_)
 refine qR rfl rfl rfl rfl (qS (qQ (qG (qG (qC (.q 0 (.q 1 (.q 2 (.q 3 (.q 4 (.q 5 (.q 6 (.q 7 (.done))))))))) Kr ?_)))))
 refine qK rfl rfl rfl rfl (qN rfl rfl rfl rfl rfl (sK _ _ _ _) ?_)
 refine qK rfl rfl rfl rfl ?_
 refine cL 7 rfl (fun hg=>by exfalso;omega) (fun hg=>?_)
 refine qK rfl rfl rfl rfl (qK rfl rfl rfl rfl (cH rfl rfl rfl rfl υ'50 ?_))
 refine qN rfl rfl rfl rfl rfl (b_geq _ _ _ _) ?_
 refine kC rfl rfl rfl rfl rfl (qS (qW [0,1,12] (e':=[(0,_),(1,_),(12,_)]) rfl ?_))
 refine qQ ?_
 refine qB rfl (fun hge=>?_) (fun hge=>?_)
 ·
  refine qG (qC (.q 0 (.done)) Kr ?_)
  refine qR rfl rfl rfl rfl (qS (qQ (qJ (qD (cR rfl rfl (()) (by rw [getD_no Om]) (by trivial) ?_)))))
  exact Tf
 obtain ⟨x,hx⟩:=cP (l:=xs) (i:=i) Om
 refine qF (qQ (qG (qC (.q 0 (.q 1 (.q 2 (.q 3 (.q 4 (.done)))))) Kr ?_)))
 refine qK rfl rfl rfl rfl (qK rfl rfl rfl rfl (rC (sz:=0) (k:=i) rfl rfl rfl rfl rfl υ'50 ζ'48 (hr) hx encU_len (by first | rfl | omega) Om ?_))
 intro ib15 io15 _ hd15
 refine q_load rfl rfl rfl rfl α'48 Tk (hd15 0 (.int .u64 x) rfl) ?_
 refine qR rfl rfl rfl rfl (qS (qW [4] (e':=[(4,_)]) rfl ?_))
 refine qQ (qJ (cR rfl rfl (()) (by rw [getD_of hx]) (by trivial) ?_))
 exact Tf
theorem with_spec (xs:List Int) (ao:Option Addr) (n c:Nat) (A:HProp) (hr:RdS A ao (xs.flatMap encU)) (hn:xs.length=n) (hb:n≤4000000000) (i:Nat) (z:Int) (hi:i < 100000):Spec Try.prog 42 [.slice ao n c,.int .i64 ((i:Nat):Int),.int .u64 z] [A] (fun (r:Option Addr × Nat)=>.slice r.1 (withL xs i z).length r.2) (fun r=>True) (fun r=>[A,own 1 encU r.1 r.2 (withL xs i z)]):=by
 refine kP (n:=35) Try.func42 rfl rfl rfl ?_
 intro Γ w0
 simp only [argE,List.cons_append,List.nil_append,Nat.zero_add,Nat.reduceAdd]
 refine qG (qC (.q 0 (.done)) Kr ?_)
 refine qR rfl rfl rfl rfl (qS (qQ (qG (qC (.q 0 (.q 1 (.q 2 (.q 3 (.q 4 (.q 5 (.done))))))) Kr ?_))))
 refine qK rfl rfl rfl rfl (cH rfl rfl rfl rfl υ'50 ?_)
 refine qK rfl rfl rfl rfl (qN rfl rfl rfl rfl rfl (cV _ (by exact kG Om Om)) ?_)
 refine q_max rfl rfl rfl rfl rfl ?_
 obtain ⟨M,hM⟩:∃ M:Nat,M=max n (i+1):=⟨_,rfl⟩
 refine kH 14 rfl (v':=.int .i64 ((M:Nat):Int)) (by first | rfl | (congr 1;omega) | (rw [hM];rfl)) ?_
 refine qR rfl rfl rfl rfl (qS (qW [0,1,2,7] (e':=[(0,_),(1,_),(2,_),(7,_)]) rfl ?_))
 refine qQ (qG (qC (.q 0 ((.l 1 [] (.q 2 (.done))))) Kr ?_))
 refine qK rfl rfl rfl rfl (l_make (sz:=1) (enc:=encU) (len:=M) (cap:=M) ((0:Int)) rfl rfl rfl rfl rfl (by first | rfl | omega) (by first | rfl | omega) υ'50 τ'48 rfl rfl rfl (by decide) Om Om (by show 8*_≤_;omega) (by rfl) (encU_len) ?_)
 intro bo
 refine qV ?_
 obtain ⟨oa,hoa⟩:∃ q:Option Addr,q=some ⟨bo,0,none⟩:=⟨_,rfl⟩
 rw [← hoa]
 refine qR rfl rfl rfl rfl (qS (qQ (qG (qG (qC (.q 0 (.done)) Kr ?_)))))
 refine qR rfl rfl rfl rfl (qS (qQ (kS ?_)))
 refine cD (α:=Nat × List Int) (fun (x_:Nat × List Int)=>match x_ with | (k,V)=>k≤n∧(V=xs.take k)) (fun (x_:Nat × List Int)=>match x_ with | (k,V)=>[(9,.int .i64 ((k:Nat):Int))]) (fun (x_:Nat × List Int)=>match x_ with | (k,V)=>[own 1 encU oa M (V++List.replicate (M - k) (0:Int))]) (fun (x_:Nat × List Int)=>match x_ with | (k,V)=>n - k) [0,1,2,8] (er:=[(0,_),(1,_),(2,_),(8,_)]) rfl (0,[]) ?_ (by exact ⟨rfl,trivial⟩) (by (try dsimp only);rw [List.nil_append,Nat.sub_zero];(repeat ((with_reducible apply Z2);focus (first | (with_reducible (repeat (first | exact Z0 | apply Z1));done) | (repeat (first | exact Z0 | apply Z1)))));exact Z3) ?_
 · exact ⟨Nat.zero_le _,rfl⟩
 rintro ⟨k,V⟩ ⟨hle_k,hV⟩
 try simp only [List.cons_append,List.nil_append]
 have hVl:V.length=k:=by rw [hV,List.length_take];omega
 refine qG (qG (qC (.q 0 (.q 1 (.q 2 (.q 3 (.done))))) Kr ?_))
 refine qK rfl rfl rfl rfl (qK rfl rfl rfl rfl (cH rfl rfl rfl rfl υ'50 ?_))
 refine qN rfl rfl rfl rfl rfl (sK _ _ _ _) ?_
 refine qS (qQ ?_)
 refine qB rfl (fun hlt=>?_) (fun hlt=>?_)
 ·
  refine qF (qQ (qG (kS (qC (.q 0 (.q 1 (.q 2 (.q 3 (.q 4 (.q 5 (.q 6 ((.l 7 [] (.done)))))))))) Kr ?_))))
  refine qK rfl rfl rfl rfl (qK rfl rfl rfl rfl (qK rfl rfl rfl rfl (qK rfl rfl rfl rfl ?_)))
  obtain ⟨x,hx⟩:=cP (l:=xs) (i:=k) (by first | omega | (simp;done) | (simp;omega))
  refine rC (sz:=0) (k:=k) rfl rfl rfl rfl rfl υ'50 ζ'48 (hr) hx encU_len (by first | rfl | omega) Om ?_
  intro ib27 io27 _ hd27
  refine q_load rfl rfl rfl rfl α'48 Tk (hd27 0 (.int .u64 x) rfl) ?_
  refine kY (sz:=0) (k:=k) (enc:=encU) (xs:=(V++List.replicate (M - k) (0:Int))) rfl rfl rfl rfl rfl υ'50 ζ'48 (fill_get (n:=M) hVl Om) (by first | rfl | omega) Om Tk ?_
  intro ib29 io29 ha29 hl29 hc29
  refine kJ (j:=0) (k:=k) (q:=x) (enc:=encU) (off:=io29) rfl rfl rfl rfl ζ'48 (us:=[_]) rfl rfl rfl ha29 encU_len (fill_get (n:=M) hVl Om) Tk (by first | rfl | exact (Nat.add_zero _).symm | omega) (by first | decide | exact Nat.le_of_ble_eq_true rfl) (by rfl) ?_
  refine qV (qS (qW [0,1,2,8,9] (e':=[(0,_),(1,_),(2,_),(8,_),(9,_)]) rfl ?_))
  refine kK (qQ (qC (.q 0 (.q 1 (.q 2 (.done)))) Kr ?_))
  refine qK rfl rfl rfl rfl (qN rfl rfl rfl rfl rfl (cV _ (by exact kG Om Om)) ?_)
  refine qR rfl rfl rfl rfl (qS (qQ ?_))
  rw [fill_set x hVl Om]
  refine cQ (x:=(k,V)) ((k+1,V++[x])) ?_ ?_ ?_ ?_
  · try dsimp only
    exact ⟨by omega,by rw [hV,List.take_add_one,hx];rfl⟩
  · show n - (k+1) < n - k;omega
  · exact ⟨rfl,rfl,rfl,rfl,rfl,trivial⟩
  · (try simp only [List.cons_append,List.nil_append]);exact Tf
 refine cM (qZ (qZ (kV (qQ (qG ?_)))))
 obtain ⟨e,he⟩:=cP (l:=(V++List.replicate (M - k) (0:Int))) (i:=i) (by simp;omega)
 refine qC (.q 0 (.q 1 (.q 2 (.q 3 ((.l 4 [] (.done))))))) Kr ?_
 refine qK rfl rfl rfl rfl (qK rfl rfl rfl rfl (qK rfl rfl rfl rfl (kY (sz:=0) (k:=i) (enc:=encU) (xs:=(V++List.replicate (M - k) (0:Int))) rfl rfl rfl rfl rfl υ'50 ζ'48 he (by first | rfl | omega) Om Tk ?_)))
 intro ib33 io33 ha33 hl33 hc33
 refine kJ (j:=0) (k:=i) (q:=z) (enc:=encU) (off:=io33) rfl rfl rfl rfl ζ'48 (us:=[_]) rfl rfl rfl ha33 encU_len he Tk (by first | rfl | exact (Nat.add_zero _).symm | omega) (by first | decide | exact Nat.le_of_ble_eq_true rfl) (by rfl) ?_
 refine qV (qS (qW [8] (e':=[(8,_)]) rfl ?_))
 refine qQ (qG (qC (.q 0 (.q 1 (.done))) Kr ?_))
 refine qK rfl rfl rfl rfl (qR rfl rfl rfl rfl (qS (qQ (qJ ?_))))
 obtain rfl:k=n:=by omega
 have hVx:V=xs:=by rw [hV,List.take_of_length_le Om]
 have hwl:(V++List.replicate (M - k) (0:Int)).set i z=withL xs i z:=by rw [hVx];unfold withL;rw [show M - k=i+1 - xs.length from by omega]
 rw [hwl]
 have hwm:(withL xs i z).length=M:=by unfold withL;simp;omega
 refine cR rfl rfl ((oa,M)) (by rw [hwm]) (by trivial) ?_
 exact Tf
theorem joined_spec (xs ys:List Int) (ao bo_:Option Addr) (n m c d:Nat) (A:HProp) (hr:RdS A ao (xs.flatMap encU)) (hr2:RdS A bo_ (ys.flatMap encU)) (hn:xs.length=n) (hm:ys.length=m) (hb:n≤4000000) (hb2:m≤4000000):Spec Try.prog 41 [.slice ao n c,.slice bo_ m d] [A] (fun (r:Option Addr × Nat)=>.slice r.1 (jndL xs ys).length r.2) (fun r=>True) (fun r=>[A,own 1 encU r.1 r.2 (jndL xs ys)]):=by
 refine kP (n:=31) Try.func41 rfl rfl rfl ?_
 intro Γ w0
 simp only [argE,List.cons_append,List.nil_append,Nat.zero_add,Nat.reduceAdd]
 refine qG (qC (.q 0 (.done)) Kr ?_)
 refine qR rfl rfl rfl rfl (qS (qQ (qG (qC (.q 0 (.q 1 (.q 2 (.q 3 (.q 4 (.q 5 (.done))))))) Kr ?_))))
 refine qK rfl rfl rfl rfl (cH rfl rfl rfl rfl υ'50 ?_)
 refine qK rfl rfl rfl rfl (cH rfl rfl rfl rfl υ'50 ?_)
 refine q_max rfl rfl rfl rfl rfl ?_
 obtain ⟨M,hM⟩:∃ M:Nat,M=max n m:=⟨_,rfl⟩
 refine kH 12 rfl (v':=.int .i64 ((M:Nat):Int)) (by first | rfl | (congr 1;omega) | (rw [hM];rfl)) ?_
 refine qR rfl rfl rfl rfl (qS (qW [0,1,5] (e':=[(0,_),(1,_),(5,_)]) rfl ?_))
 refine qQ (qG (qC (.q 0 ((.l 1 [] (.q 2 (.done))))) Kr ?_))
 refine qK rfl rfl rfl rfl (l_make (sz:=1) (enc:=encU) (len:=M) (cap:=M) ((0:Int)) rfl rfl rfl rfl rfl (by first | rfl | omega) (by first | rfl | omega) υ'50 τ'48 rfl rfl rfl (by decide) Om Om (by show 8*_≤_;omega) (by rfl) (encU_len) ?_)
 intro bo
 refine qV ?_
 obtain ⟨oa,hoa⟩:∃ q:Option Addr,q=some ⟨bo,0,none⟩:=⟨_,rfl⟩
 rw [← hoa]
 refine qR rfl rfl rfl rfl (qS (qQ (qG (qG (qC (.q 0 (.done)) Kr ?_)))))
 refine qR rfl rfl rfl rfl (qS (qQ (kS ?_)))
 refine cD (α:=Nat × List Int) (fun (x_:Nat × List Int)=>match x_ with | (k,V)=>k≤M∧(V=(List.range k).map fun q=>max (xs.getD q 0) (ys.getD q 0))) (fun (x_:Nat × List Int)=>match x_ with | (k,V)=>[(7,.int .i64 ((k:Nat):Int))]) (fun (x_:Nat × List Int)=>match x_ with | (k,V)=>[own 1 encU oa M (V++List.replicate (M - k) (0:Int))]) (fun (x_:Nat × List Int)=>match x_ with | (k,V)=>M - k) [0,1,5,6] (er:=[(0,_),(1,_),(5,_),(6,_)]) rfl (0,[]) ?_ (by exact ⟨rfl,trivial⟩) (by (try dsimp only);rw [List.nil_append,Nat.sub_zero];(repeat ((with_reducible apply Z2);focus (first | (with_reducible (repeat (first | exact Z0 | apply Z1));done) | (repeat (first | exact Z0 | apply Z1)))));exact Z3) ?_
 · exact ⟨Nat.zero_le _,rfl⟩
 rintro ⟨k,V⟩ ⟨hle_k,hV⟩
 try simp only [List.cons_append,List.nil_append]
 have hVl:V.length=k:=by rw [hV];simp
 refine qG (qG (qC (.q 0 (.q 1 (.q 2 (.done)))) Kr ?_))
 refine qK rfl rfl rfl rfl (qK rfl rfl rfl rfl (qN rfl rfl rfl rfl rfl (sK _ _ _ _) ?_))
 refine qS (qQ ?_)
 refine qB rfl (fun hlt=>?_) (fun hlt=>?_)
 ·
  refine qF (qQ (qG (kS (qC (.q 0 (.q 1 (.q 2 (.q 3 ((.l 4 [] (.q 5 (.q 6 ((.l 7 [] (.q 8 (.q 9 ((.l 10 [] (.done))))))))))))))) Kr ?_))))
  refine qK rfl rfl rfl rfl (qK rfl rfl rfl rfl (qK rfl rfl rfl rfl (qK rfl rfl rfl rfl ?_)))
  have sp_1:=Fr.at_spec xs ao n c A (hr) Ln Om k
  refine qM rfl rfl rfl rfl rfl rfl κ'35 (sp_1) Ts ?_
  rintro ⟨⟩ -
  try simp only [List.cons_append,List.nil_append]
  refine qV (qK rfl rfl rfl rfl (qK rfl rfl rfl rfl ?_))
  have sp_2:=Fr.at_spec ys bo_ m d A (hr2) Ln Om k
  refine qM rfl rfl rfl rfl rfl rfl κ'35 (sp_2) Ts ?_
  rintro ⟨⟩ -
  try simp only [List.cons_append,List.nil_append]
  refine qV (q_max rfl rfl rfl rfl rfl ?_)
  refine kY (sz:=0) (k:=k) (enc:=encU) (xs:=(V++List.replicate (M - k) (0:Int))) rfl rfl rfl rfl rfl υ'50 ζ'48 (fill_get (n:=M) hVl Om) (by first | rfl | omega) Om Tk ?_
  intro ib29 io29 ha29 hl29 hc29
  refine kJ (j:=0) (k:=k) (q:=(max (xs.getD k 0) (ys.getD k 0))) (enc:=encU) (off:=io29) rfl rfl rfl rfl ζ'48 (us:=[_]) rfl rfl rfl ha29 encU_len (fill_get (n:=M) hVl Om) Tk (by first | rfl | exact (Nat.add_zero _).symm | omega) (by first | decide | exact Nat.le_of_ble_eq_true rfl) (by rfl) ?_
  refine qV (qS (qW [0,1,5,6,7] (e':=[(0,_),(1,_),(5,_),(6,_),(7,_)]) rfl ?_))
  refine kK (qQ (qC (.q 0 (.q 1 (.q 2 (.done)))) Kr ?_))
  refine qK rfl rfl rfl rfl (qN rfl rfl rfl rfl rfl (cV _ (by exact kG Om Om)) ?_)
  refine qR rfl rfl rfl rfl (qS (qQ ?_))
  rw [fill_set (max (xs.getD k 0) (ys.getD k 0)) hVl Om]
  refine cQ (x:=(k,V)) ((k+1,V++[(max (xs.getD k 0) (ys.getD k 0))])) ?_ ?_ ?_ ?_
  · try dsimp only
    exact ⟨by omega,by rw [hV,List.range_succ,List.map_append];rfl⟩
  · show M - (k+1) < M - k;omega
  · exact ⟨rfl,rfl,rfl,rfl,rfl,trivial⟩
  · (try simp only [List.cons_append,List.nil_append]);exact Tf
 refine cM (qZ (qZ (kV (qQ (qG (qC (.q 0 (.q 1 (.done))) Kr ?_))))))
 refine qK rfl rfl rfl rfl (qR rfl rfl rfl rfl (qS (qW [4] (e':=[(4,_)]) rfl ?_)))
 refine qQ (qJ ?_)
 obtain rfl:k=M:=by omega
 have hjl:V++List.replicate (k - k) (0:Int)=jndL xs ys:=by rw [hV,Nat.sub_self,List.replicate_zero,List.append_nil];unfold jndL;rw [hn,hm,← hM]
 rw [hjl]
 have hjm:(jndL xs ys).length=k:=by unfold jndL;rw [hn,hm,← hM];simp
 refine cR rfl rfl ((oa,k)) (by rw [hjm]) (by trivial) ?_
 exact Tf
theorem below_spec (xs ys:List Int) (ao bo_:Option Addr) (n m c d:Nat) (A:HProp) (hr:RdS A ao (xs.flatMap encU)) (hr2:RdS A bo_ (ys.flatMap encU)) (hn:xs.length=n) (hm:ys.length=m) (hb:n≤4000000) (hb2:m≤4000000):Spec Try.prog 79 [.slice ao n c,.slice bo_ m d] [A] (fun (_:Unit)=>.bool (decide (∀ j:Nat,j < n→xs.getD j 0≤ys.getD j 0))) (fun _=>True) (fun _=>[A]):=by
 refine kP (n:=20) Try.func79 rfl rfl rfl ?_
 intro Γ w0
 simp only [argE,List.cons_append,List.nil_append,Nat.zero_add,Nat.reduceAdd]
 refine qG (qC (.q 0 (.done)) Kr ?_)
 refine qR rfl rfl rfl rfl (qS (qQ (qG (qG (qC (.q 0 (.done)) Kr ?_)))))
 refine qR rfl rfl rfl rfl (qS (qQ (kS ?_)))
 refine cD (α:=Nat) (fun (k:Nat)=>k≤n∧(∀ j:Nat,j < k→xs.getD j 0≤ys.getD j 0)) (fun (k:Nat)=>[(5,.int .i64 ((k:Nat):Int))]) (fun (k:Nat)=>[]) (fun (k:Nat)=>n - k) [0,1] (er:=[(0,_),(1,_)]) rfl (0) ?_ (by exact ⟨rfl,trivial⟩) (by (try dsimp only);(try simp only [Nat.add_zero,Nat.zero_add]);(repeat ((with_reducible apply Z2);focus (first | (with_reducible (repeat (first | exact Z0 | apply Z1));done) | (repeat (first | exact Z0 | apply Z1)))));exact Z3) ?_
 · exact ⟨Nat.zero_le _,fun j h=>by omega⟩
 rintro k ⟨hle_k,hI⟩
 try simp only [List.cons_append,List.nil_append]
 refine qG (qG (qC (.q 0 (.q 1 (.q 2 (.q 3 (.done))))) Kr ?_))
 refine qK rfl rfl rfl rfl (qK rfl rfl rfl rfl (cH rfl rfl rfl rfl υ'50 ?_))
 refine qN rfl rfl rfl rfl rfl (sK _ _ _ _) ?_
 refine qS (qQ ?_)
 refine qB rfl (fun hlt=>?_) (fun hlt=>?_)
 ·
  refine qF (qQ (qG (kS (qG (kX rfl (.q 0 (.q 1 (.q 2 (.q 3 (.q 4 (.q 5 ((.l 6 [3] (.q 7 (.done)))))))))) Kr ?_)))))
  refine qK rfl rfl rfl rfl (qK rfl rfl rfl rfl ?_)
  obtain ⟨x,hx⟩:=cP (l:=xs) (i:=k) (by first | omega | (simp;done) | (simp;omega))
  refine rC (sz:=0) (k:=k) rfl rfl rfl rfl rfl υ'50 ζ'48 (hr) hx encU_len (by first | rfl | omega) Om ?_
  intro ib14 io14 _ hd14
  refine q_load rfl rfl rfl rfl α'48 Tk (hd14 0 (.int .u64 x) rfl) ?_
  refine qK rfl rfl rfl rfl (qK rfl rfl rfl rfl ?_)
  have sp_1:=Fr.at_spec ys bo_ m d A (hr2) Ln Om k
  refine qM rfl rfl rfl rfl rfl rfl κ'35 (sp_1) Ts ?_
  rintro ⟨⟩ -
  try simp only [List.cons_append,List.nil_append]
  refine ag_load rfl rfl rfl α'48 Tk (hd14 0 (.int .u64 x) rfl) ?_
  refine qV (qN rfl rfl rfl rfl rfl (b_gtr _ _ _ _) ?_)
  refine qS (qW [0,1,5,19] (e':=[(0,_),(1,_),(5,_),(19,_)]) rfl ?_)
  refine qQ ?_
  refine qB rfl (fun hc=>?_) (fun hc=>?_)
  ·
   refine qG (qC (.q 0 (.done)) Kr ?_)
   refine qR rfl rfl rfl rfl (qS (qW [4] (e':=[(4,_)]) rfl ?_))
   refine qQ (qJ (cC (qD (qD (cC (qD (cR rfl rfl (()) (by congr 1;symm;rw [decide_eq_false_iff_not];intro h;have:=h k Om;rw [getD_of hx] at this;omega) (by trivial) ?_)))))))
   exact Tf
  refine qF (kK (qQ (qC (.q 0 (.q 1 (.q 2 (.done)))) Kr ?_)))
  refine qK rfl rfl rfl rfl (qN rfl rfl rfl rfl rfl (cV _ (by exact kG Om Om)) ?_)
  refine qR rfl rfl rfl rfl (qS (qQ ?_))
  refine cQ (x:=k) (k+1) ?_ ?_ ?_ ?_
  · exact ⟨by omega,fun j hj=>(by
        by_cases e:j=k
        · subst e;rw [getD_of hx];omega
        · exact hI j Om)⟩
  · show n - (k+1) < n - k;omega
  · exact ⟨rfl,rfl,rfl,trivial⟩
  · (try simp only [List.cons_append,List.nil_append]);exact Tf
 refine cM (qZ (qZ (kV (qQ (qG (qC (.q 0 (.done)) Kr ?_))))))
 refine qR rfl rfl rfl rfl (qS (qW [4] (e':=[(4,_)]) rfl ?_))
 refine qQ (qJ (cR rfl rfl (()) (by congr 1;symm;rw [decide_eq_true_eq];intro j hj;exact hI j Om) (by trivial) ?_))
 exact Tf
theorem trimmed_spec (xs:List Int) (ao:Option Addr) (n c:Nat) (A:HProp) (hr:RdS A ao (xs.flatMap encU)) (hn:xs.length=n) (hb:n≤4000000000):Spec Try.prog 92 [.slice ao n c] [A] (fun (r:Option Addr × Nat)=>.slice r.1 (tr xs).length r.2) (fun r=>True) (fun r=>[A,own 1 encU r.1 r.2 (tr xs)]):=by
 refine kP (n:=33) Try.func92 rfl rfl rfl ?_
 intro Γ w0
 simp only [argE,List.cons_append,List.nil_append,Nat.zero_add,Nat.reduceAdd]
 refine qG (qC (.q 0 (.done)) Kr ?_)
 refine qR rfl rfl rfl rfl (qS (qQ (qG (qC (.q 0 (.q 1 (.q 2 (.done)))) Kr ?_))))
 refine qK rfl rfl rfl rfl (cH rfl rfl rfl rfl υ'50 ?_)
 refine qR rfl rfl rfl rfl (qS (qQ (qG (kS ?_))))
 refine cD (α:=Nat) (fun (k:Nat)=>trN xs xs.length=trN xs k∧k≤n) (fun (k:Nat)=>[(3,.int .i64 ((k:Nat):Int))]) (fun (k:Nat)=>[]) (fun (k:Nat)=>k) [0] (er:=[(0,_)]) rfl (n) ?_ (by exact ⟨rfl,trivial⟩) (by (try dsimp only);(try simp only [Nat.add_zero,Nat.zero_add]);(repeat ((with_reducible apply Z2);focus (first | (with_reducible (repeat (first | exact Z0 | apply Z1));done) | (repeat (first | exact Z0 | apply Z1)))));exact Z3) ?_
 · exact ⟨by rw [hn],Nat.le_refl _⟩
 rintro k ⟨hk,hkn⟩
 try simp only [List.cons_append,List.nil_append]
 refine qG (qG (qC (.q 0 (.q 1 (.q 2 (.q 3 (.q 4 (.q 5 (.q 6 (.q 7 (.q 8 (.q 9 (.done))))))))))) Kr ?_))
 refine qK rfl rfl rfl rfl (qN rfl rfl rfl rfl rfl (b_gtr _ _ _ _) ?_)
 refine qK rfl rfl rfl rfl ?_
 refine cL 10 rfl (fun hk0=>?_) (fun hk0=>?_)
 ·
  obtain ⟨k,rfl⟩:∃ j,k=j+1:=⟨k - 1,by omega⟩
  obtain ⟨x,hx⟩:=cP (l:=xs) (i:=k) Om
  refine qK rfl rfl rfl rfl (qK rfl rfl rfl rfl (qN rfl rfl rfl rfl rfl (b_sub' _ (by exact kG Om Om)) ?_))
  refine kH 13 rfl (v':=.int .i64 ((k:Nat):Int)) (by congr 1;omega) ?_
  refine rC (sz:=0) (k:=k) rfl rfl rfl rfl rfl υ'50 ζ'48 (hr) hx encU_len (by first | rfl | omega) Om ?_
  intro ib14 io14 _ hd14
  refine q_load rfl rfl rfl rfl α'48 Tk (hd14 0 (.int .u64 x) rfl) ?_
  refine qN rfl rfl rfl rfl rfl (cS _ _ _ _) ?_
  refine kZ rfl rfl rfl rfl rfl (qS (qQ ?_))
  refine qB rfl (fun hz=>?_) (fun hz=>?_)
  ·
   have hz2:trN xs (k+1)=trN xs k:=by rw [trN,if_pos (by rw [getD_of hx];exact hz)]
   refine qF (qQ (kS (qC (.q 0 (.q 1 (.q 2 (.done)))) Kr ?_)))
   refine qK rfl rfl rfl rfl (qN rfl rfl rfl rfl rfl (b_sub' _ (by exact kG Om Om)) ?_)
   refine kH 19 rfl (v':=.int .i64 ((k:Nat):Int)) (by congr 1;omega) ?_
   refine qR rfl rfl rfl rfl (qS (qW [0,3,11,12,13,14,15,16] (e':=[(0,_),(3,_),(11,_),(12,_),(13,_),(14,_),(15,_),(16,_)]) rfl ?_))
   refine kK (qQ ?_)
   refine cQ (x:=k+1) (k) ?_ ?_ ?_ ?_
   · exact ⟨by rw [hk,hz2],by omega⟩
   · show k < k+1;omega
   · exact ⟨rfl,rfl,trivial⟩
   · (try simp only [List.cons_append,List.nil_append]);exact Tf
  have hz2:trN xs (k+1)=k+1:=by rw [trN,if_neg (by rw [getD_of hx];exact hz)]
  refine cM (qZ (qZ (kV (qQ (qG (qC (.q 0 (.done)) Kr ?_))))))
  refine qR rfl rfl rfl rfl (qS (qW [0,3,4] (e':=[(0,_),(3,_),(4,_)]) rfl ?_))
  refine qQ (qG (qG (qC (.q 0 (.done)) Kr ?_)))
  refine qR rfl rfl rfl rfl ?_
  obtain ⟨kk,hkk⟩:∃ q:Nat,q=trN xs xs.length:=⟨_,rfl⟩
  have hkx:kk=k+1:=by rw [hkk,hk,hz2]
  refine kH 3 rfl (v':=.int .i64 ((kk:Nat):Int)) (by rw [hkx]) ?_
  have hkn2:=trN_le xs xs.length
  refine qS (qQ (kS (kF (fun _ h=>cJ (sz:=1) (enc:=encU) h) ?_)))
  refine cD (α:=Nat × Option Addr × Nat) (fun (x_:Nat × Option Addr × Nat)=>match x_ with | (i,ga,gc)=>i≤kk) (fun (x_:Nat × Option Addr × Nat)=>match x_ with | (i,ga,gc)=>[(4,.slice ga i gc),(5,.int .i64 ((i:Nat):Int))]) (fun (x_:Nat × Option Addr × Nat)=>match x_ with | (i,ga,gc)=>[own 1 encU ga gc (xs.take i)]) (fun (x_:Nat × Option Addr × Nat)=>match x_ with | (i,ga,gc)=>kk - i) [0,3] (er:=[(0,_),(3,_)]) rfl (0,none,0) ?_ (by exact ⟨rfl,rfl,trivial⟩) (by (try dsimp only);rw [List.take_zero];(repeat ((with_reducible apply Z2);focus (first | (with_reducible (repeat (first | exact Z0 | apply Z1));done) | (repeat (first | exact Z0 | apply Z1)))));exact Z3) ?_
  · exact Nat.zero_le _
  rintro ⟨i,ga,gc⟩ hle_i
  try simp only [List.cons_append,List.nil_append]
  refine qG (qG (qC (.q 0 (.q 1 (.q 2 (.done)))) Kr ?_))
  refine qK rfl rfl rfl rfl (qK rfl rfl rfl rfl (qN rfl rfl rfl rfl rfl (sK _ _ _ _) ?_))
  refine qS (qQ ?_)
  refine qB rfl (fun hlt2=>?_) (fun hlt2=>?_)
  ·
   obtain ⟨y,hy⟩:=cP (l:=xs) (i:=i) Om
   refine qF (qQ (qG (kS (qC (.q 0 (.q 1 (.q 2 (.q 3 (.q 4 ((.l 5 [] ((.l 6 [] (.q 7 (.done))))))))))) Kr ?_))))
   refine qK rfl rfl rfl rfl (qK rfl rfl rfl rfl (qK rfl rfl rfl rfl (rC (sz:=0) (k:=i) rfl rfl rfl rfl rfl υ'50 ζ'48 (hr) hy encU_len (by first | rfl | omega) Om ?_)))
   intro ib28 io28 _ hd28
   refine q_load rfl rfl rfl rfl α'48 Tk (hd28 0 (.int .u64 y) rfl) ?_
   refine cG rfl rfl rfl rfl (cB (us:=[_]) υ'50 ζ'48 rfl ω'48 rfl rfl rfl) ?_
   intro b30
   refine qV (sV (sz:=1) (enc:=encU) (xs:=(xs.take i)) rfl rfl rfl rfl rfl υ'50 τ'48 rfl rfl rfl (by decide) Tk Tk (by first | rfl | omega | (simp;done) | (simp;omega)) (ys:=[y]) (sW sC) (by rfl) (by first | rfl | omega) (encU_len) (encU_one) Om (by show _*8≤_;omega) ?_)
   intro ao31 cp31
   refine qV (qR rfl rfl rfl rfl (qS (qW [0,3,4,5] (e':=[(0,_),(3,_),(4,_),(5,_)]) rfl ?_)))
   refine kK (qQ (qC (.q 0 (.q 1 (.q 2 (.done)))) Kr ?_))
   refine qK rfl rfl rfl rfl (qN rfl rfl rfl rfl rfl (cV _ (by exact kG Om Om)) ?_)
   refine qR rfl rfl rfl rfl (qS (qQ ?_))
   have hnx:xs.take i++[y]=xs.take (i+1):=(take_snocF hy).symm
   rw [hnx]
   refine cQ (x:=(i,ga,gc)) ((i+1,ao31,cp31)) ?_ ?_ ?_ ?_
   · try dsimp only
     omega
   · show kk - (i+1) < kk - i;omega
   · exact ⟨rfl,rfl,rfl,rfl,trivial⟩
   · (try simp only [List.cons_append,List.nil_append]);exact Tf
  refine cM (qZ (qZ (kV (qQ (qG (qC (.q 0 (.q 1 (.done))) Kr ?_))))))
  refine qK rfl rfl rfl rfl (qR rfl rfl rfl rfl (qS (qW [2] (e':=[(2,_)]) rfl ?_)))
  refine qQ (qJ ?_)
  obtain rfl:i=kk:=by omega
  have htr:xs.take i=tr xs:=by rw [hkk];rfl
  have htl:(tr xs).length=i:=by rw [tr_len,← hkk]
  rw [htr]
  refine cR rfl rfl ((ga,gc)) (by rw [htl]) (by trivial) ?_
  exact Tf
 obtain rfl:k=0:=by omega
 refine qY rfl rfl rfl rfl (qY rfl rfl rfl rfl (qY rfl rfl rfl rfl (qY rfl rfl rfl rfl (qY rfl rfl rfl rfl (qY rfl rfl rfl rfl (kC rfl rfl rfl rfl rfl (qS (qQ ?_))))))))
 refine kB rfl ?_
 refine cM (qZ (qZ (kV (qQ (qG (qC (.q 0 (.done)) Kr ?_))))))
 refine qR rfl rfl rfl rfl (qS (qW [0,3,4] (e':=[(0,_),(3,_),(4,_)]) rfl ?_))
 refine qQ (qG (qG (qC (.q 0 (.done)) Kr ?_)))
 refine qR rfl rfl rfl rfl ?_
 obtain ⟨kk,hkk⟩:∃ q:Nat,q=trN xs xs.length:=⟨_,rfl⟩
 have hkx:kk=0:=by rw [hkk,hk];rfl
 refine kH 3 rfl (v':=.int .i64 ((kk:Nat):Int)) (by rw [hkx]) ?_
 have hkn2:=trN_le xs xs.length
 refine qS (qQ (kS (kF (fun _ h=>cJ (sz:=1) (enc:=encU) h) ?_)))
 refine cD (α:=Nat × Option Addr × Nat) (fun (x_:Nat × Option Addr × Nat)=>match x_ with | (i,ga,gc)=>i≤kk) (fun (x_:Nat × Option Addr × Nat)=>match x_ with | (i,ga,gc)=>[(4,.slice ga i gc),(5,.int .i64 ((i:Nat):Int))]) (fun (x_:Nat × Option Addr × Nat)=>match x_ with | (i,ga,gc)=>[own 1 encU ga gc (xs.take i)]) (fun (x_:Nat × Option Addr × Nat)=>match x_ with | (i,ga,gc)=>kk - i) [0,3] (er:=[(0,_),(3,_)]) rfl (0,none,0) ?_ (by exact ⟨rfl,rfl,trivial⟩) (by (try dsimp only);rw [List.take_zero];(repeat ((with_reducible apply Z2);focus (first | (with_reducible (repeat (first | exact Z0 | apply Z1));done) | (repeat (first | exact Z0 | apply Z1)))));exact Z3) ?_
 · exact Nat.zero_le _
 rintro ⟨i,ga,gc⟩ hle_i
 try simp only [List.cons_append,List.nil_append]
 refine qG (qG (qC (.q 0 (.q 1 (.q 2 (.done)))) Kr ?_))
 refine qK rfl rfl rfl rfl (qK rfl rfl rfl rfl (qN rfl rfl rfl rfl rfl (sK _ _ _ _) ?_))
 refine qS (qQ ?_)
 refine qB rfl (fun hlt2=>?_) (fun hlt2=>?_)
 ·
  obtain ⟨y,hy⟩:=cP (l:=xs) (i:=i) Om
  refine qF (qQ (qG (kS (qC (.q 0 (.q 1 (.q 2 (.q 3 (.q 4 ((.l 5 [] ((.l 6 [] (.q 7 (.done))))))))))) Kr ?_))))
  refine qK rfl rfl rfl rfl (qK rfl rfl rfl rfl (qK rfl rfl rfl rfl (rC (sz:=0) (k:=i) rfl rfl rfl rfl rfl υ'50 ζ'48 (hr) hy encU_len (by first | rfl | omega) Om ?_)))
  intro ib28 io28 _ hd28
  refine q_load rfl rfl rfl rfl α'48 Tk (hd28 0 (.int .u64 y) rfl) ?_
  refine cG rfl rfl rfl rfl (cB (us:=[_]) υ'50 ζ'48 rfl ω'48 rfl rfl rfl) ?_
  intro b30
  refine qV (sV (sz:=1) (enc:=encU) (xs:=(xs.take i)) rfl rfl rfl rfl rfl υ'50 τ'48 rfl rfl rfl (by decide) Tk Tk (by first | rfl | omega | (simp;done) | (simp;omega)) (ys:=[y]) (sW sC) (by rfl) (by first | rfl | omega) (encU_len) (encU_one) Om (by show _*8≤_;omega) ?_)
  intro ao31 cp31
  refine qV (qR rfl rfl rfl rfl (qS (qW [0,3,4,5] (e':=[(0,_),(3,_),(4,_),(5,_)]) rfl ?_)))
  refine kK (qQ (qC (.q 0 (.q 1 (.q 2 (.done)))) Kr ?_))
  refine qK rfl rfl rfl rfl (qN rfl rfl rfl rfl rfl (cV _ (by exact kG Om Om)) ?_)
  refine qR rfl rfl rfl rfl (qS (qQ ?_))
  have hnx:xs.take i++[y]=xs.take (i+1):=(take_snocF hy).symm
  rw [hnx]
  refine cQ (x:=(i,ga,gc)) ((i+1,ao31,cp31)) ?_ ?_ ?_ ?_
  · try dsimp only
    omega
  · show kk - (i+1) < kk - i;omega
  · exact ⟨rfl,rfl,rfl,rfl,trivial⟩
  · (try simp only [List.cons_append,List.nil_append]);exact Tf
 refine cM (qZ (qZ (kV (qQ (qG (qC (.q 0 (.q 1 (.done))) Kr ?_))))))
 refine qK rfl rfl rfl rfl (qR rfl rfl rfl rfl (qS (qW [2] (e':=[(2,_)]) rfl ?_)))
 refine qQ (qJ ?_)
 obtain rfl:i=kk:=by omega
 have htr:xs.take i=tr xs:=by rw [hkk];rfl
 have htl:(tr xs).length=i:=by rw [tr_len,← hkk]
 rw [htr]
 refine cR rfl rfl ((ga,gc)) (by rw [htl]) (by trivial) ?_
 exact Tf
end Go.Ab.Fr
set_option linter.unusedVariables false
set_option linter.unusedSimpArgs false
set_option maxRecDepth 100000
namespace Go.Ab.Fr
open Go Go.Proofs Go.Ab Go.Ab.Fe Go.Ab.Vc Go.Ab.Dj Go.Ab.Fa
/-- A list's header and what stands in it. -/
abbrev H:=LstA Int
def h0:H:=(none,0,[])
/-- A vector of the pool M, or none. -/
def InP (M:List H) (h:H):Prop:=h=h0∨(h∈M∧(h.1=none→h.2.2=[])∧(h.1≠none→∃ b o,h.1=some ⟨b,o,none⟩))
theorem inp_more {M M':List H} (hs:∀ h∈M,h∈M') {h:H} (hp:InP M h):InP M' h:=hp.imp id fun ⟨a,b,c⟩=>⟨hs h a,b,c⟩
theorem inp_rds {M:List H} {h:H} (hp:InP M h):RdS (bigS (owA 1 encU) M) h.1 (h.2.2.flatMap encU):=by
  rcases hp with rfl | ⟨a,b,c⟩
  · exact .inl rfl
  · exact rds_big (f:=owA 1 encU) a (sD encU_len b c)
/-- A vector as long as may be, of clocks. -/
def OkV (l:List Int):Prop:=l.length≤65535∧∀ x∈l,0≤x∧x≤maxC
theorem ok_cv {l:List Int} (h:OkV l):CV (tr l):=tr_cv h.1 h.2
theorem ok_g {l:List Int} (h:OkV l) (k:Nat):0≤l.getD k 0∧l.getD k 0≤maxC:=by
  rcases Nat.lt_or_ge k l.length with h1 | h1
  · obtain ⟨x,hx⟩:=cP h1
    rw [getD_of hx];exact h.2 x (List.mem_of_getElem? hx)
  · rw [getD_no h1];decide
theorem ok_nil:OkV []:=⟨by decide,fun x h=>by cases h⟩
theorem ok_with {l:List Int} (h:OkV l) {i:Nat} (hi:i < 65535) {x:Int} (h0:0≤x) (h1:x≤maxC):OkV (withL l i x):=by
  unfold withL
  refine ⟨by simp;have:=h.1;omega,fun y hy=>?_⟩
  rcases List.mem_or_eq_of_mem_set hy with hy | rfl
  · rcases List.mem_append.1 hy with hy | hy
    · exact h.2 y hy
    · rw [(List.mem_replicate.1 hy).2];decide
  · exact ⟨h0,h1⟩
theorem ok_jnd {a b:List Int} (ha:OkV a) (hb:OkV b):OkV (jndL a b):=by
  unfold jndL
  refine ⟨by simp;have:=ha.1;have:=hb.1;omega,fun y hy=>?_⟩
  obtain ⟨k,-,rfl⟩:=List.mem_map.1 hy
  have h1:=ok_g ha k
  have h2:=ok_g hb k
  omega
theorem tr_with {l:List Int} (h:OkV l) {i:Nat} (hi:i < 65535) {x:Int} (h0:0≤x) (h1:x≤maxC):tr (withL l i x)=stL (tr l) i x :=
  Tr_ext (tr_Tr _) (stL_cv (ok_cv h) hi h0 h1).tr fun k=>by rw [tr_g,with_g,stL_g,tr_g]
theorem tr_jnd {a b:List Int} (ha:OkV a) (hb:OkV b):tr (jndL a b)=jn (tr a) (tr b) :=
  Tr_ext (tr_Tr _) (jn_cv (ok_cv ha) (ok_cv hb)).tr fun k=>by rw [tr_g,jnd_g a b (fun k=>⟨(ok_g ha k).1,(ok_g hb k).1⟩),jn_g (ok_cv ha) (ok_cv hb),tr_g,tr_g]
/-- An epoch by thread and clock. -/
def epR (t:Nat) (c:Int):Nat:=if c=0 then 0 else t*281474976710656+c.toNat
/-- A round: its barrier, its number, its vector. -/
abbrev RRd:=Int × Int × H
/-- A variable: the threads and clocks of its epochs, whether it is shared, its vector, its flag. -/
abbrev RVr:=Nat × Nat × Int × Int × Bool × H × Int
structure RS where
  V:List H
  L:List H
  O:List H
  R:List RRd
  X:List RVr
/-- What is kept of a variable, here and there. -/
structure RelV (w:V4F) (q:RVr):Prop where
  we:w.1=epR q.1 q.2.2.1
  re:w.2.1=epR q.2.1 q.2.2.2.1
  sh:q.2.2.2.2.1=w.2.2.1.isSome
  vec:w.2.2.1=if q.2.2.2.2.1=true then some (tr q.2.2.2.2.2.1.2.2) else none
  fl:q.2.2.2.2.2.2=w.2.2.2
  th:q.1 < 65535∧q.2.1 < 65535
  c:(0≤q.2.2.1∧q.2.2.1≤maxC)∧0≤q.2.2.2.1∧q.2.2.2.1≤maxC
  rz:q.2.2.2.2.1=true→q.2.2.2.1=0
/-- The document's detector r stands where the fast one, x, does. -/
structure Rel (x:FS) (r:RS):Prop where
  Vn:(r.V.length:Int)=x.v.ck.th
  V:∀ (t:Nat) h,r.V[t]?=some h→OkV h.2.2∧tr h.2.2=thF x.v (t:Int)
  Ln:(r.L.length:Int)=x.v.ck.lk
  L:∀ (o:Nat) h,r.L[o]?=some h→OkV h.2.2∧tr h.2.2=(x.v.lk (o:Int)).getD []
  On:(r.O.length:Int)=x.v.ck.vo
  O:∀ (o:Nat) h,r.O[o]?=some h→OkV h.2.2∧tr h.2.2=(x.v.vo (o:Int)).getD []
  Xn:r.X.length=x.vs.length
  X:∀ (i:Nat) w q,x.vs[i]?=some w→r.X[i]?=some q→RelV w q∧OkV q.2.2.2.2.2.1.2.2
  Rl:(r.R.length:Int)≤x.v.ck.n
  Rd:(r.R.map fun q=>(q.1,q.2.1)).Nodup
  Rk:∀ q∈r.R,OkV q.2.2.2.2∧(0≤q.1∧q.2.1≤(opF x.v.ck q.1).1)∧∀ p,x.v.rd (q.1,q.2.1)=some p→tr q.2.2.2.2=p.1
  Re:∀ o n p,x.v.rd (o,n)=some p→∃ h,(o,n,h)∈r.R
  Rc:∀ q∈r.R,q.2.1=(opF x.v.ck q.1).1→(x.v.rd (q.1,q.2.1)).isSome=true
end Go.Ab.Fr
set_option linter.unusedVariables false
set_option linter.unusedSimpArgs false
set_option maxRecDepth 100000
namespace Go.Ab.Fe
open Go Go.Proofs Go.Ab
/-- The document's checker at b. -/
def rk (pa:Option Addr) (pc b:Nat) (x:CS):HProp:=fun h=>∃ ta tc oa oc ba bc,Sat [cells b 0 [.int .i64 x.th,.int .i64 x.va,.int .i64 x.vo,.int .i64 x.lk,.slice pa x.pa.length pc,.slice ta x.T.length tc,.slice oa x.O.length oc,.slice ba x.B.length bc,.int .i64 x.n],own 3 enc3 ta tc x.T,own 1 encZ oa oc x.O,own 2 enc2 ba bc x.B] h
section
variable {w0:World} {ds:List Deferred} {n:Nat} {e:Env} {Γ:List HProp} {X:Act→World→Prop}
theorem rk_open {pa:Option Addr} {pc b:Nat} {x:CS} (k:∀ ta tc oa oc ba bc,Le (St w0 ds n e (cells b 0 [.int .i64 x.th,.int .i64 x.va,.int .i64 x.vo,.int .i64 x.lk,.slice pa x.pa.length pc,.slice ta x.T.length tc,.slice oa x.O.length oc,.slice ba x.B.length bc,.int .i64 x.n]::own 3 enc3 ta tc x.T::own 1 encZ oa oc x.O::own 2 enc2 ba bc x.B::Γ)) X):Le (St w0 ds n e (rk pa pc b x::Γ)) X:=fun a w s=>by
  obtain ⟨h1,l1,⟨ta,tc,oa,oc,ba,bc,a1⟩,s1⟩:=s.heap
  exact k ta tc oa oc ba bc a w ⟨s.defers,s.size,s.env,Bun.unfold ⟨h1,l1,a1,s1⟩,s.amb⟩
theorem rk_fold {Γ':List HProp} {b:Nat} (x:CS) {pn tn on bn:Nat} {pa:Option Addr} {pc:Nat} {ta oa ba:Option Addr} {tc oc bc:Nat}
    (tk:Takes Γ [cells b 0 [.int .i64 x.th,.int .i64 x.va,.int .i64 x.vo,.int .i64 x.lk,.slice pa pn pc,.slice ta tn tc,.slice oa on oc,.slice ba bn bc,.int .i64 x.n],own 3 enc3 ta tc x.T,own 1 encZ oa oc x.O,own 2 enc2 ba bc x.B] Γ') (h1:pn=x.pa.length) (h2:tn=x.T.length) (h3:on=x.O.length) (h4:bn=x.B.length)
    (k:Le (St w0 ds n e (rk pa pc b x::Γ')) X):Le (St w0 ds n e Γ) X:=kF (fun h s=>by
  subst h1 h2 h3 h4
  obtain ⟨h1,l1,a1,s1⟩:=Bun.fold (tk h s)
  exact ⟨h1,l1,⟨ta,tc,oa,oc,ba,bc,a1⟩,s1⟩) k
end
theorem can_run' {x:CS} {k t o:Int} (h:(stF x t).1=1):canF x k t o↔0≤o∧okK x k t o:=by
  unfold canF;rw [h];simp
theorem owF_n {x:CS} {o:Int}:owF x o=none↔owV x o=-1:=by
  unfold owF;split
  · rename_i h;simp [h]
  · rename_i h;simp [h]
theorem owF_s {x:CS} {o t:Int} (ht:t≠-1):owF x o=some t↔owV x o=t:=by
  unfold owF;split
  · rename_i h;rw [h];simp;omega
  · simp
theorem can_out {x:CS} {k t o:Int} (h:¬ (0≤t∧t < (x.T.length:Int))):¬ canF x k t o:=fun hc=>by
  have:=stF_nz (can_th hc);omega
theorem full_out {x:CS} {t:Int} (h:¬ (0≤t∧t < (x.T.length:Int))):¬ fullF x t:=fun hc=>by
  have:=stF_nz (x:=x) (t:=t) (by rw [hc.1];decide);omega
theorem take_next {α:Type} {l:List α} {i:Nat} {a:α} (h:l[i]?=some a):l.take (i+1)=l.take i++[a]:=by
  rw [List.take_add_one,h];rfl
theorem below_spec (i m:Int):Spec Try.prog 76 [.int .i64 i,.int .i64 m] [] (fun (_:Unit)=>.bool (decide (0≤i∧i < m))) (fun _=>True) (fun _=>[]):=by
 refine kP (n:=12) Try.func76 rfl rfl rfl ?_
 intro Γ w0
 simp only [argE,List.cons_append,List.nil_append,Nat.zero_add,Nat.reduceAdd]
 refine qG (qC (.q 0 (.done)) Kr ?_)
 refine qR rfl rfl rfl rfl (qS (qQ (qG (qC (.q 0 (.q 1 (.q 2 (.q 3 (.q 4 (.q 5 (.q 6 (.q 7 (.done))))))))) Kr ?_))))
 refine qK rfl rfl rfl rfl (qN rfl rfl rfl rfl rfl (b_geq _ _ _ _) ?_)
 refine qK rfl rfl rfl rfl ?_
 refine cL 7 rfl (fun g_1=>?_) (fun g_1=>?_)
 ·
  refine qK rfl rfl rfl rfl (qK rfl rfl rfl rfl (qN rfl rfl rfl rfl rfl (sK _ _ _ _) ?_))
  refine kZ rfl rfl rfl rfl rfl (qR rfl rfl rfl rfl (qS (qW [4] (e':=[(4,_)]) rfl ?_)))
  refine qQ (qJ (cR rfl rfl (()) (by congr 1;first | (rw [decide_eq_decide];omega) | (symm;rw [decide_eq_false_iff_not];omega)) (by trivial) ?_))
  exact Tf
 refine qY rfl rfl rfl rfl (qY rfl rfl rfl rfl (qY rfl rfl rfl rfl (kC rfl rfl rfl rfl rfl (qR rfl rfl rfl rfl (qS (qW [4] (e':=[(4,_)]) rfl ?_))))))
 refine qQ (qJ (cR rfl rfl (()) (by congr 1;first | (rw [decide_eq_decide];omega) | (symm;rw [decide_eq_false_iff_not];omega)) (by trivial) ?_))
 exact Tf
theorem count_spec (i:Int):Spec Try.prog 100 [.int .i64 i] [] (fun (_:Unit)=>.bool (decide (0≤i∧i≤4096))) (fun _=>True) (fun _=>[]):=by
 refine kP (n:=9) Try.func100 rfl rfl rfl ?_
 intro Γ w0
 simp only [argE,List.cons_append,List.nil_append,Nat.zero_add,Nat.reduceAdd]
 refine qG (qC (.q 0 (.done)) Kr ?_)
 refine qR rfl rfl rfl rfl (qS (qQ (qG (qC (.q 0 (.q 1 (.q 2 (.q 3 (.q 4 (.q 5 (.q 6 (.done)))))))) Kr ?_))))
 refine qK rfl rfl rfl rfl (qN rfl rfl rfl rfl rfl (b_geq _ _ _ _) ?_)
 refine qK rfl rfl rfl rfl ?_
 refine cL 5 rfl (fun g_1=>?_) (fun g_1=>?_)
 ·
  refine qK rfl rfl rfl rfl (qN rfl rfl rfl rfl rfl (b_leq _ _ _ _) ?_)
  refine kZ rfl rfl rfl rfl rfl (qR rfl rfl rfl rfl (qS (qW [2] (e':=[(2,_)]) rfl ?_)))
  refine qQ (qJ (cR rfl rfl (()) (by congr 1;first | (rw [decide_eq_decide];omega) | (symm;rw [decide_eq_false_iff_not];omega)) (by trivial) ?_))
  exact Tf
 refine qY rfl rfl rfl rfl (qY rfl rfl rfl rfl (kC rfl rfl rfl rfl rfl (qR rfl rfl rfl rfl (qS (qW [2] (e':=[(2,_)]) rfl ?_)))))
 refine qQ (qJ (cR rfl rfl (()) (by congr 1;first | (rw [decide_eq_decide];omega) | (symm;rw [decide_eq_false_iff_not];omega)) (by trivial) ?_))
 exact Tf
theorem rshape_spec (th va vo lk:Int) (pl:List Int) (ao:Option Addr) (n c:Nat) (A:HProp) (hr:RdS A ao (pl.flatMap encZ)) (hn:pl.length=n) (hb:n≤4000000):Spec Try.prog 75 [.agg #[.int .i64 th,.int .i64 va,.int .i64 vo,.int .i64 lk,.slice ao n c]] [A] (fun (_:Unit)=>.int .i64 (if OkS th va vo lk pl then 0 else 5)) (fun _=>True) (fun _=>[A]):=by
 refine kP (n:=58) Try.func75 rfl rfl rfl ?_
 intro Γ w0
 simp only [argE,List.cons_append,List.nil_append,Nat.zero_add,Nat.reduceAdd]
 refine qG (qC ((.l 0 [] (.q 1 (.done)))) Kr ?_)
 refine sX rfl rfl rfl rfl (us:=[_,_,_,_,_]) rfl ?_
 intro b1
 refine qV (qR rfl rfl rfl rfl (qS (qQ (qG (qG (qC (.q 0 (.q 1 (.q 2 (.q 3 (.q 4 (.q 5 (.q 6 (.q 7 (.q 8 (.q 9 (.q 10 ((.l 11 [] (.q 12 (.q 13 (.q 14 (.q 15 (.q 16 ((.l 17 [] (.q 18 (.q 19 (.q 20 (.q 21 (.q 22 ((.l 23 [] (.q 24 (.q 25 (.q 26 (.q 27 (.q 28 (.q 29 ((.l 30 [] (.q 31 (.q 32 (.done)))))))))))))))))))))))))))))))))))))) Kr ?_))))))
 refine qL (k:=0) rfl rfl rfl rfl υ'25 rfl ζ'3 rfl ?_
 refine qP (j:=0) rfl rfl rfl rfl α'3 Tk Az (by rfl) ?_
 refine qN rfl rfl rfl rfl rfl (sK _ _ _ _) ?_
 refine qK rfl rfl rfl rfl ?_
 refine cL 7 rfl (fun h1=>?_) (fun h1=>?_)
 ·
  refine qY rfl rfl rfl rfl (qY rfl rfl rfl rfl (qY rfl rfl rfl rfl (kZ rfl rfl rfl rfl rfl (qK rfl rfl rfl rfl (qY rfl rfl rfl rfl (qY rfl rfl rfl rfl (sZ rfl rfl rfl rfl ?_)))))))
  refine qY rfl rfl rfl rfl (kZ rfl rfl rfl rfl rfl (qK rfl rfl rfl rfl (qY rfl rfl rfl rfl (qY rfl rfl rfl rfl (sZ rfl rfl rfl rfl ?_)))))
  refine qY rfl rfl rfl rfl (kZ rfl rfl rfl rfl rfl (qK rfl rfl rfl rfl (qY rfl rfl rfl rfl (qY rfl rfl rfl rfl (sZ rfl rfl rfl rfl ?_)))))
  refine qY rfl rfl rfl rfl (kZ rfl rfl rfl rfl rfl (qK rfl rfl rfl rfl (qY rfl rfl rfl rfl (qY rfl rfl rfl rfl (qY rfl rfl rfl rfl (sZ rfl rfl rfl rfl ?_))))))
  refine qY rfl rfl rfl rfl (kZ rfl rfl rfl rfl rfl (qS (qW [1,36] (e':=[(1,_),(36,_)]) rfl ?_)))
  refine qQ (cN rfl ?_)
  refine qG (qC (.q 0 (.done)) Kr ?_)
  refine qR rfl rfl rfl rfl (qS (qQ (qJ (qD (cR rfl rfl (()) (by rw [if_neg (fun h=>by have h1:=h.th;have h2:=h.va;have h3:=h.vo;have h4:=h.lk;have h5:=h.pl;omega)]) (by trivial) ?_)))))
  exact Tf
 refine qL (k:=0) rfl rfl rfl rfl υ'25 rfl ζ'3 rfl ?_
 refine qP (j:=0) rfl rfl rfl rfl α'3 Tk Az (by rfl) ?_
 refine qN rfl rfl rfl rfl rfl (b_gtr _ _ _ _) ?_
 refine kC rfl rfl rfl rfl rfl (qK rfl rfl rfl rfl ?_)
 refine cL 12 rfl (fun h2=>?_) (fun h2=>?_)
 ·
  refine qY rfl rfl rfl rfl (qY rfl rfl rfl rfl (sZ rfl rfl rfl rfl ?_))
  refine qY rfl rfl rfl rfl (kZ rfl rfl rfl rfl rfl (qK rfl rfl rfl rfl (qY rfl rfl rfl rfl (qY rfl rfl rfl rfl (sZ rfl rfl rfl rfl ?_)))))
  refine qY rfl rfl rfl rfl (kZ rfl rfl rfl rfl rfl (qK rfl rfl rfl rfl (qY rfl rfl rfl rfl (qY rfl rfl rfl rfl (sZ rfl rfl rfl rfl ?_)))))
  refine qY rfl rfl rfl rfl (kZ rfl rfl rfl rfl rfl (qK rfl rfl rfl rfl (qY rfl rfl rfl rfl (qY rfl rfl rfl rfl (qY rfl rfl rfl rfl (sZ rfl rfl rfl rfl ?_))))))
  refine qY rfl rfl rfl rfl (kZ rfl rfl rfl rfl rfl (qS (qW [1,36] (e':=[(1,_),(36,_)]) rfl ?_)))
  refine qQ (cN rfl ?_)
  refine qG (qC (.q 0 (.done)) Kr ?_)
  refine qR rfl rfl rfl rfl (qS (qQ (qJ (qD (cR rfl rfl (()) (by rw [if_neg (fun h=>by have h1:=h.th;have h2:=h.va;have h3:=h.vo;have h4:=h.lk;have h5:=h.pl;omega)]) (by trivial) ?_)))))
  exact Tf
 refine qL (k:=1) rfl rfl rfl rfl υ'25 rfl ζ'3 rfl ?_
 refine qP (j:=1) rfl rfl rfl rfl α'3 Tk Az (by rfl) ?_
 have sp_1:=count_spec va
 refine qM rfl rfl rfl rfl rfl rfl κ'100 (sp_1) Ts ?_
 rintro ⟨⟩ -
 try simp only [List.cons_append,List.nil_append]
 refine qV (rL rfl rfl rfl rfl ?_)
 refine kC rfl rfl rfl rfl rfl (qK rfl rfl rfl rfl ?_)
 refine s_bool_np 18 rfl (fun h3=>?_) (fun h3=>?_)
 ·
  refine qY rfl rfl rfl rfl (qY rfl rfl rfl rfl (sZ rfl rfl rfl rfl ?_))
  refine qY rfl rfl rfl rfl (kZ rfl rfl rfl rfl rfl (qK rfl rfl rfl rfl (qY rfl rfl rfl rfl (qY rfl rfl rfl rfl (sZ rfl rfl rfl rfl ?_)))))
  refine qY rfl rfl rfl rfl (kZ rfl rfl rfl rfl rfl (qK rfl rfl rfl rfl (qY rfl rfl rfl rfl (qY rfl rfl rfl rfl (qY rfl rfl rfl rfl (sZ rfl rfl rfl rfl ?_))))))
  refine qY rfl rfl rfl rfl (kZ rfl rfl rfl rfl rfl (qS (qW [1,36] (e':=[(1,_),(36,_)]) rfl ?_)))
  refine qQ (cN rfl ?_)
  refine qG (qC (.q 0 (.done)) Kr ?_)
  refine qR rfl rfl rfl rfl (qS (qQ (qJ (qD (cR rfl rfl (()) (by rw [if_neg (fun h=>by have h1:=h.th;have h2:=h.va;have h3:=h.vo;have h4:=h.lk;have h5:=h.pl;omega)]) (by trivial) ?_)))))
  exact Tf
 refine qL (k:=2) rfl rfl rfl rfl υ'25 rfl ζ'3 rfl ?_
 refine qP (j:=2) rfl rfl rfl rfl α'3 Tk Az (by rfl) ?_
 have sp_2:=count_spec vo
 refine qM rfl rfl rfl rfl rfl rfl κ'100 (sp_2) Ts ?_
 rintro ⟨⟩ -
 try simp only [List.cons_append,List.nil_append]
 refine qV (rL rfl rfl rfl rfl ?_)
 refine kC rfl rfl rfl rfl rfl (qK rfl rfl rfl rfl ?_)
 refine s_bool_np 24 rfl (fun h4=>?_) (fun h4=>?_)
 ·
  refine qY rfl rfl rfl rfl (qY rfl rfl rfl rfl (sZ rfl rfl rfl rfl ?_))
  refine qY rfl rfl rfl rfl (kZ rfl rfl rfl rfl rfl (qK rfl rfl rfl rfl (qY rfl rfl rfl rfl (qY rfl rfl rfl rfl (qY rfl rfl rfl rfl (sZ rfl rfl rfl rfl ?_))))))
  refine qY rfl rfl rfl rfl (kZ rfl rfl rfl rfl rfl (qS (qW [1,36] (e':=[(1,_),(36,_)]) rfl ?_)))
  refine qQ (cN rfl ?_)
  refine qG (qC (.q 0 (.done)) Kr ?_)
  refine qR rfl rfl rfl rfl (qS (qQ (qJ (qD (cR rfl rfl (()) (by rw [if_neg (fun h=>by have h1:=h.th;have h2:=h.va;have h3:=h.vo;have h4:=h.lk;have h5:=h.pl;omega)]) (by trivial) ?_)))))
  exact Tf
 refine qL (k:=3) rfl rfl rfl rfl υ'25 rfl ζ'3 rfl ?_
 refine qP (j:=3) rfl rfl rfl rfl α'3 Tk Az (by rfl) ?_
 have sp_3:=count_spec lk
 refine qM rfl rfl rfl rfl rfl rfl κ'100 (sp_3) Ts ?_
 rintro ⟨⟩ -
 try simp only [List.cons_append,List.nil_append]
 refine qV (rL rfl rfl rfl rfl ?_)
 refine kC rfl rfl rfl rfl rfl (qK rfl rfl rfl rfl ?_)
 refine s_bool_np 30 rfl (fun h5=>?_) (fun h5=>?_)
 ·
  refine qY rfl rfl rfl rfl (qY rfl rfl rfl rfl (qY rfl rfl rfl rfl (sZ rfl rfl rfl rfl ?_)))
  refine qY rfl rfl rfl rfl (kZ rfl rfl rfl rfl rfl (qS (qW [1,36] (e':=[(1,_),(36,_)]) rfl ?_)))
  refine qQ (cN rfl ?_)
  refine qG (qC (.q 0 (.done)) Kr ?_)
  refine qR rfl rfl rfl rfl (qS (qQ (qJ (qD (cR rfl rfl (()) (by rw [if_neg (fun h=>by have h1:=h.th;have h2:=h.va;have h3:=h.vo;have h4:=h.lk;have h5:=h.pl;omega)]) (by trivial) ?_)))))
  exact Tf
 refine qL (k:=4) rfl rfl rfl rfl υ'25 rfl ζ'23 rfl ?_
 refine qP (j:=4) rfl rfl rfl rfl α'23 Tk Az (by rfl) ?_
 refine cH rfl rfl rfl rfl υ'23 ?_
 have sp_4:=count_spec ((n:Nat):Int)
 refine qM rfl rfl rfl rfl rfl rfl κ'100 (sp_4) Ts ?_
 rintro ⟨⟩ -
 try simp only [List.cons_append,List.nil_append]
 refine qV (rL rfl rfl rfl rfl ?_)
 refine kC rfl rfl rfl rfl rfl (qS (qW [1,36] (e':=[(1,_),(36,_)]) rfl ?_))
 refine qQ ?_
 refine c_cond_np rfl (fun h6=>?_) (fun h6=>?_)
 ·
  refine qG (qC (.q 0 (.done)) Kr ?_)
  refine qR rfl rfl rfl rfl (qS (qQ (qJ (qD (cR rfl rfl (()) (by rw [if_neg (fun h=>by have h1:=h.th;have h2:=h.va;have h3:=h.vo;have h4:=h.lk;have h5:=h.pl;omega)]) (by trivial) ?_)))))
  exact Tf
 refine qF (qQ (qG (qG (qC (.q 0 (.done)) Kr ?_))))
 refine qR rfl rfl rfl rfl (qS (qQ (kS ?_)))
 refine cD (α:=Nat) (fun (i:Nat)=>i≤n∧(∀ (j:Nat) (p:Int),j < i→pl[j]?=some p→badP p=false)) (fun (i:Nat)=>[(3,.int .i64 ((i:Nat):Int))]) (fun (i:Nat)=>[]) (fun (i:Nat)=>n - i) [1] (er:=[(1,_)]) rfl (0) ?_ (by exact ⟨rfl,trivial⟩) (by (try dsimp only);(try simp only [Nat.add_zero,Nat.zero_add]);(repeat ((with_reducible apply Z2);focus (first | (with_reducible (repeat (first | exact Z0 | apply Z1));done) | (repeat (first | exact Z0 | apply Z1)))));exact Z3) ?_
 · exact ⟨Nat.zero_le _,fun j p h=>by omega⟩
 rintro i ⟨hle_i,hI⟩
 try simp only [List.cons_append,List.nil_append]
 refine qG (qG (qC (.q 0 (.q 1 (.q 2 (.q 3 (.q 4 (.done)))))) Kr ?_))
 refine qK rfl rfl rfl rfl (qL (k:=4) rfl rfl rfl rfl υ'25 rfl ζ'23 rfl ?_)
 refine qP (j:=4) rfl rfl rfl rfl α'23 Tk Az (by rfl) ?_
 refine cH rfl rfl rfl rfl υ'23 ?_
 refine qN rfl rfl rfl rfl rfl (sK _ _ _ _) ?_
 refine qS (qW [1,3,41] (e':=[(1,_),(3,_),(41,_)]) rfl ?_)
 refine qQ ?_
 refine qB rfl (fun hlt=>?_) (fun hlt=>?_)
 ·
  refine qF (qQ (qG (kS (qG ?_))))
  obtain ⟨p,hp⟩:=cP (l:=pl) (i:=i) Om
  refine qC (.q 0 (.q 1 (.q 2 (.q 3 (.q 4 (.q 5 (.q 6 (.q 7 (.q 8 (.q 9 (.q 10 (.q 11 (.q 12 (.q 13 (.done))))))))))))))) Kr ?_
  refine qL (k:=4) rfl rfl rfl rfl υ'25 rfl ζ'23 rfl ?_
  refine qP (j:=4) rfl rfl rfl rfl α'23 Tk Az (by rfl) ?_
  refine qK rfl rfl rfl rfl (rC (sz:=0) (k:=i) rfl rfl rfl rfl rfl υ'23 ζ'3 (hr) hp encZ_len (by first | rfl | omega) Om ?_)
  intro ib47 io47 _ hd47
  refine q_load rfl rfl rfl rfl α'3 Tk (hd47 0 (.int .i64 p) rfl) ?_
  refine qN rfl rfl rfl rfl rfl (sK _ _ _ _) ?_
  refine qK rfl rfl rfl rfl ?_
  refine cL 50 rfl (fun hp1=>?_) (fun hp1=>?_)
  ·
   refine qY rfl rfl rfl rfl (qY rfl rfl rfl rfl (qY rfl rfl rfl rfl (qY rfl rfl rfl rfl (qY rfl rfl rfl rfl (qY rfl rfl rfl rfl (kZ rfl rfl rfl rfl rfl (qS (qW [1,3,51,52,53,54,55,56,57] (e':=[(1,_),(3,_),(51,_),(52,_),(53,_),(54,_),(55,_),(56,_),(57,_)]) rfl ?_))))))))
   refine qQ (cN rfl ?_)
   have hno:¬ OkS th va vo lk pl:=fun h=>by
     have:=h.pa p (List.mem_of_getElem? hp);omega
   refine qG (qC (.q 0 (.done)) Kr ?_)
   refine qR rfl rfl rfl rfl (qS (qW [2] (e':=[(2,_)]) rfl ?_))
   refine qQ (qJ (cC (qD (qD (cC (qD (cR rfl rfl (()) (by rw [if_neg hno]) (by trivial) ?_)))))))
   exact Tf
  refine qL (k:=4) rfl rfl rfl rfl υ'25 rfl ζ'23 rfl ?_
  refine qP (j:=4) rfl rfl rfl rfl α'23 Tk Az (by rfl) ?_
  refine qK rfl rfl rfl rfl (rC (sz:=0) (k:=i) rfl rfl rfl rfl rfl υ'23 ζ'3 (hr) hp encZ_len (by first | rfl | omega) Om ?_)
  intro ib54 io54 _ hd54
  refine q_load rfl rfl rfl rfl α'3 Tk (hd54 0 (.int .i64 p) rfl) ?_
  refine qN rfl rfl rfl rfl rfl (b_gtr _ _ _ _) ?_
  refine kC rfl rfl rfl rfl rfl (qS (qW [1,3,51,52,53,54,55,56,57] (e':=[(1,_),(3,_),(51,_),(52,_),(53,_),(54,_),(55,_),(56,_),(57,_)]) rfl ?_))
  refine qQ ?_
  refine qB rfl (fun hp2=>?_) (fun hp2=>?_)
  ·
   have hno:¬ OkS th va vo lk pl:=fun h=>by
     have:=h.pa p (List.mem_of_getElem? hp);omega
   refine qG (qC (.q 0 (.done)) Kr ?_)
   refine qR rfl rfl rfl rfl (qS (qW [2] (e':=[(2,_)]) rfl ?_))
   refine qQ (qJ (cC (qD (qD (cC (qD (cR rfl rfl (()) (by rw [if_neg hno]) (by trivial) ?_)))))))
   exact Tf
  have hgood:badP p=false:=by simp only [badP,Bool.or_eq_false_iff,decide_eq_false_iff_not];omega
  refine qF (kK (qQ (qC (.q 0 (.q 1 (.q 2 (.done)))) Kr ?_)))
  refine qK rfl rfl rfl rfl (qN rfl rfl rfl rfl rfl (cV _ (by exact kG Om Om)) ?_)
  refine qR rfl rfl rfl rfl (qS (qQ ?_))
  refine cQ (x:=i) (i+1) ?_ ?_ ?_ ?_
  · exact ⟨by omega,fun j q hj hq=>(by
        by_cases h:j=i
        · subst h;rw [hp] at hq;cases hq;exact hgood
        · exact hI j q Om hq)⟩
  · show n - (i+1) < n - i;omega
  · exact ⟨rfl,rfl,trivial⟩
  · (try simp only [List.cons_append,List.nil_append]);exact Tf
 refine cM (qZ (qZ (kV (qQ (qG (qC (.q 0 (.done)) Kr ?_))))))
 refine qR rfl rfl rfl rfl (qS (qQ (qJ ?_)))
 refine cR rfl rfl (()) (by rw [if_pos (okS_iff.2 ⟨by omega,by omega,by omega,by omega,by omega,fun p q=>by
   obtain ⟨j,hj⟩:=List.getElem?_of_mem q
   exact hI j p (by have:=(List.getElem?_eq_some_iff.1 hj).1;omega) hj⟩)]) (by trivial) ?_
 exact Tf
theorem rfull_spec (pa:Option Addr) (pc b:Nat) (x:CS) (hx:CInv x) (t:Int):Spec Try.prog 77 [.pointer (some ⟨b,0,none⟩),.int .i64 t] [rk pa pc b x] (fun (_:Unit)=>.bool (decide (fullF x t))) (fun _=>True) (fun _=>[rk pa pc b x]):=by
 refine kP (n:=42) Try.func77 rfl rfl rfl ?_
 intro Γ w0
 simp only [argE,List.cons_append,List.nil_append,Nat.zero_add,Nat.reduceAdd]
 refine qG (qC (.q 0 (.done)) Kr ?_)
 refine qR rfl rfl rfl rfl (qS (qQ (qG (qG (cK (A:=rk pa pc b x) Tk ?_)))))
 refine rk_open fun ta tc oa oc ba bc=>?_
 refine qC (.q 0 (.q 1 (.q 2 (.q 3 (.q 4 (.q 5 (.q 6 (.q 7 (.q 8 ((.l 9 [] (.q 10 (.q 11 (.done)))))))))))))) Kr ?_
 refine qK rfl rfl rfl rfl (cY rfl rfl rfl rfl υ'91 ?_)
 refine kH 7 rfl (v':=.bool false) rfl ?_
 refine qK rfl rfl rfl rfl (qK rfl rfl rfl rfl (qK rfl rfl rfl rfl (qX rfl rfl rfl rfl (qL (k:=5) rfl rfl rfl rfl υ'151 rfl ζ'149 rfl ?_))))
 refine qP (j:=5) rfl rfl rfl rfl α'149 Tk Az (by rfl) ?_
 refine cH rfl rfl rfl rfl υ'149 ?_
 have sp_1:=below_spec t ((x.T.length:Nat):Int)
 refine qM rfl rfl rfl rfl rfl rfl κ'76 (sp_1) Ts ?_
 rintro ⟨⟩ -
 try simp only [List.cons_append,List.nil_append]
 refine qV (rL rfl rfl rfl rfl ?_)
 refine kC rfl rfl rfl rfl rfl (qS (qW [0,1,17] (e':=[(0,_),(1,_),(17,_)]) rfl ?_))
 refine qQ ?_
 refine c_cond_np rfl (fun hin=>?_) (fun hin=>?_)
 ·
  refine qG (qC (.q 0 (.done)) Kr ?_)
  refine qR rfl rfl rfl rfl (qS (qQ (qJ (qD (rk_fold (b:=b) x (pa:=pa) (pc:=pc) (ta:=ta) (tc:=tc) (oa:=oa) (oc:=oc) (ba:=ba) (bc:=bc) Ts (by rfl) (by rfl) (by rfl) (by rfl) ?_)))))
  refine cR rfl rfl (()) (by congr 1;symm;rw [decide_eq_false_iff_not];exact full_out hin) (by trivial) ?_
  exact Tf
 have hst:=stF_at (x:=x) hin.1 hin.2
 refine qF (qQ (qG (qC (.q 0 (.q 1 (.q 2 (.q 3 (.q 4 (.q 5 (.q 6 ((.l 7 [] ((.l 8 [] (.done)))))))))))) Kr ?_)))
 refine qK rfl rfl rfl rfl (qX rfl rfl rfl rfl (qL (k:=5) rfl rfl rfl rfl υ'151 rfl ζ'149 rfl ?_))
 refine qP (j:=5) rfl rfl rfl rfl α'149 Tk Az (by rfl) ?_
 refine qK rfl rfl rfl rfl (kY (sz:=2) (k:=t.toNat) (enc:=enc3) (xs:=x.T) rfl rfl rfl rfl rfl υ'149 ζ'107 hst (by first | rfl | omega) Om Tk ?_)
 intro ib23 io23 ha23 hl23 hc23
 refine q_loadN_O (j:=0) (k':=t.toNat) (us:=[_,_,_]) (enc:=enc3) (off:=io23) rfl rfl rfl rfl α'107 ζ'107 ha23 enc3_len hst Tk (by first | rfl | exact (Nat.add_zero _).symm | omega) (by rfl) rfl ?_
 refine cF rfl rfl rfl ω'107 (zs:=[.int .i64 0,.int .i64 0,.int .i64 0]) rfl ?_
 intro b5
 refine qV (kR (j:=0) rfl rfl rfl rfl ζ'107 (us:=[_,_,_]) rfl rfl rfl Tk Az (by first | decide | (simp;done) | omega) ?_)
 simp only [setL,List.set]
 refine qV (qS (qW [0,5] (e':=[(0,_),(5,_)]) rfl ?_))
 refine qQ (qG (kX rfl (.q 0 (.q 1 (.q 2 (.q 3 (.q 4 (.q 5 (.q 6 (.q 7 (.q 8 (.q 9 (.q 10 (.q 11 (.q 12 (.q 13 (.q 14 (.q 15 (.q 16 (.q 17 (.done))))))))))))))))))) Kr ?_))
 refine qL (k:=0) rfl rfl rfl rfl υ'107 rfl ζ'105 rfl ?_
 refine qP (j:=0) rfl rfl rfl rfl α'105 Tk Az (by rfl) ?_
 refine qN rfl rfl rfl rfl rfl (cS _ _ _ _) ?_
 refine qK rfl rfl rfl rfl ?_
 refine cL 28 rfl (fun h2=>?_) (fun h2=>?_)
 ·
  have hsi:=(stF_inv hx t).2.2.1 h2
  have hop:=opF_at hsi.1 hsi.2.1
  refine qL (k:=2) rfl rfl rfl rfl υ'107 rfl ζ'3 rfl ?_
  refine qP (j:=2) rfl rfl rfl rfl α'3 Tk Az (by rfl) ?_
  refine qK rfl rfl rfl rfl (qX rfl rfl rfl rfl (qL (k:=7) rfl rfl rfl rfl υ'151 rfl ζ'144 rfl ?_))
  refine qP (j:=7) rfl rfl rfl rfl α'144 Tk Az (by rfl) ?_
  refine qL (k:=1) rfl rfl rfl rfl υ'107 rfl ζ'3 rfl ?_
  refine qP (j:=1) rfl rfl rfl rfl α'3 Tk Az (by rfl) ?_
  refine kY (sz:=1) (k:=(stF x t).2.1.toNat) (enc:=enc2) (xs:=x.B) rfl rfl rfl rfl rfl υ'144 ζ'153 hop (by first | rfl | omega) Om Tk ?_
  intro ib37 io37 ha37 hl37 hc37
  refine qL (k:=0) rfl rfl rfl rfl υ'153 rfl ζ'3 rfl ?_
  refine kQ (v:=(.int .i64 ((opF x (stF x t).2.1).1))) (j:=0) (k':=(stF x t).2.1.toNat) (enc:=enc2) (off:=io37) rfl rfl rfl rfl α'3 ha37 enc2_len hop Tk (by first | rfl | exact (Nat.add_zero _).symm | omega) (by rfl) ?_
  refine qN rfl rfl rfl rfl rfl (sK _ _ _ _) ?_
  refine kZ rfl rfl rfl rfl rfl (qR rfl rfl rfl rfl (qS (qW [4] (e':=[(4,_)]) rfl ?_)))
  refine qQ (qJ (rk_fold (b:=b) x (pa:=pa) (pc:=pc) (ta:=ta) (tc:=tc) (oa:=oa) (oc:=oc) (ba:=ba) (bc:=bc) Ts (by rfl) (by rfl) (by rfl) (by rfl) ?_))
  refine cR rfl rfl (()) (by congr 1;first | (rw [decide_eq_decide];simp [fullF,h2];done) | (symm;rw [decide_eq_false_iff_not];simp [fullF,h2])) (by trivial) ?_
  exact Tf
 refine qY rfl rfl rfl rfl (qY rfl rfl rfl rfl (qY rfl rfl rfl rfl (qY rfl rfl rfl rfl (qY rfl rfl rfl rfl (qY rfl rfl rfl rfl (qY rfl rfl rfl rfl (qY rfl rfl rfl rfl (qY rfl rfl rfl rfl ?_))))))))
 refine qY rfl rfl rfl rfl (qY rfl rfl rfl rfl (qY rfl rfl rfl rfl (kC rfl rfl rfl rfl rfl (qR rfl rfl rfl rfl (qS (qW [4] (e':=[(4,_)]) rfl ?_))))))
 refine qQ (qJ (rk_fold (b:=b) x (pa:=pa) (pc:=pc) (ta:=ta) (tc:=tc) (oa:=oa) (oc:=oc) (ba:=ba) (bc:=bc) Ts (by rfl) (by rfl) (by rfl) (by rfl) ?_))
 refine cR rfl rfl (()) (by congr 1;first | (rw [decide_eq_decide];simp [fullF,h2];done) | (symm;rw [decide_eq_false_iff_not];simp [fullF,h2])) (by trivial) ?_
 exact Tf
theorem rcan_spec (pa:Option Addr) (pc b:Nat) (x:CS) (hx:CInv x) (k t o:Int):Spec Try.prog 33 [.pointer (some ⟨b,0,none⟩),.agg #[.int .i64 k,.int .i64 t,.int .i64 o]] [rk pa pc b x] (fun (_:Unit)=>.bool (decide (canF x k t o))) (fun _=>True) (fun _=>[rk pa pc b x]):=by
 refine kP (n:=176) Try.func33 rfl rfl rfl ?_
 intro Γ w0
 simp only [argE,List.cons_append,List.nil_append,Nat.zero_add,Nat.reduceAdd]
 have htl:=hx.tl
 have hol:=hx.ol
 have hbl:=hx.bl
 refine qG (qC ((.l 0 [] (.q 1 (.done)))) Kr ?_)
 refine sX rfl rfl rfl rfl (us:=[_,_,_]) rfl ?_
 intro b3
 refine qV (qR rfl rfl rfl rfl (qS (qQ (qG (qG (cK (A:=rk pa pc b x) Tk ?_))))))
 refine rk_open fun ta tc oa oc ba bc=>?_
 refine kX rfl (.q 0 (.q 1 (.q 2 (.q 3 (.q 4 (.q 5 (.q 6 (.q 7 (.q 8 (.q 9 ((.l 10 [] (.q 11 (.q 12 (.done))))))))))))))) Kr ?_
 refine qK rfl rfl rfl rfl (cY rfl rfl rfl rfl υ'91 ?_)
 refine kH 7 rfl (v':=.bool false) rfl ?_
 refine qK rfl rfl rfl rfl (qL (k:=1) rfl rfl rfl rfl υ'36 rfl ζ'3 rfl ?_)
 refine qP (j:=1) rfl rfl rfl rfl α'3 Tk Az (by rfl) ?_
 refine qK rfl rfl rfl rfl (qX rfl rfl rfl rfl (qL (k:=5) rfl rfl rfl rfl υ'151 rfl ζ'149 rfl ?_))
 refine qP (j:=5) rfl rfl rfl rfl α'149 Tk Az (by rfl) ?_
 refine cH rfl rfl rfl rfl υ'149 ?_
 have sp_1:=below_spec t ((x.T.length:Nat):Int)
 refine qM rfl rfl rfl rfl rfl rfl κ'76 (sp_1) Ts ?_
 rintro ⟨⟩ -
 try simp only [List.cons_append,List.nil_append]
 refine qV (rL rfl rfl rfl rfl ?_)
 refine kC rfl rfl rfl rfl rfl (qS (qW [0,3,18] (e':=[(0,_),(3,_),(18,_)]) rfl ?_))
 refine qQ ?_
 refine c_cond_np rfl (fun hin=>?_) (fun hin=>?_)
 ·
  refine qG (qC (.q 0 (.done)) Kr ?_)
  refine qR rfl rfl rfl rfl (qS (qQ (qJ (qD (rk_fold (b:=b) x (pa:=pa) (pc:=pc) (ta:=ta) (tc:=tc) (oa:=oa) (oc:=oc) (ba:=ba) (bc:=bc) Ts (by rfl) (by rfl) (by rfl) (by rfl) ?_)))))
  refine cR rfl rfl (()) (by congr 1;symm;rw [decide_eq_false_iff_not];exact can_out hin) (by trivial) ?_
  exact Tf
 have hst:=stF_at (x:=x) hin.1 hin.2
 refine qF (qQ (qG (kX rfl (.q 0 (.q 1 (.q 2 (.q 3 (.q 4 (.q 5 (.q 6 (.q 7 ((.l 8 [3,5,7] ((.l 9 [] (.done))))))))))))) Kr ?_)))
 refine qK rfl rfl rfl rfl (qX rfl rfl rfl rfl (qL (k:=5) rfl rfl rfl rfl υ'151 rfl ζ'149 rfl ?_))
 refine qP (j:=5) rfl rfl rfl rfl α'149 Tk Az (by rfl) ?_
 refine qL (k:=1) rfl rfl rfl rfl υ'36 rfl ζ'3 rfl ?_
 refine qP (j:=1) rfl rfl rfl rfl α'3 Tk Az (by rfl) ?_
 refine kY (sz:=2) (k:=t.toNat) (enc:=enc3) (xs:=x.T) rfl rfl rfl rfl rfl υ'149 ζ'107 hst (by first | rfl | omega) Om Tk ?_
 intro ib25 io25 ha25 hl25 hc25
 refine q_loadN_O (j:=0) (k':=t.toNat) (us:=[_,_,_]) (enc:=enc3) (off:=io25) rfl rfl rfl rfl α'107 ζ'107 ha25 enc3_len hst Tk (by first | rfl | exact (Nat.add_zero _).symm | omega) (by rfl) rfl ?_
 refine cF rfl rfl rfl ω'107 (zs:=[.int .i64 0,.int .i64 0,.int .i64 0]) rfl ?_
 intro b5
 refine qH (q:=5) rfl rfl rfl α'149 Tk Az (by rfl) ?_
 refine qH (q:=1) rfl rfl rfl α'3 Tk Az (by rfl) ?_
 refine ag_loadN_O (j:=0) (k':=t.toNat) (us:=[_,_,_]) (enc:=enc3) (off:=io25) rfl rfl rfl α'107 ζ'107 ha25 enc3_len hst Tk (by first | rfl | exact (Nat.add_zero _).symm | omega) (by rfl) rfl ?_
 refine qV (kR (j:=0) rfl rfl rfl rfl ζ'107 (us:=[_,_,_]) rfl rfl rfl Tk Az (by first | decide | (simp;done) | omega) ?_)
 simp only [setL,List.set]
 refine qV (qS (qW [0,3,5] (e':=[(0,_),(3,_),(5,_)]) rfl ?_))
 refine qQ (qG (qG (qC (.q 0 (.q 1 (.q 2 (.done)))) Kr ?_)))
 refine qL (k:=0) rfl rfl rfl rfl υ'107 rfl ζ'105 rfl ?_
 refine qP (j:=0) rfl rfl rfl rfl α'105 Tk Az (by rfl) ?_
 refine qN rfl rfl rfl rfl rfl (cS _ _ _ _) ?_
 refine qS (qQ ?_)
 refine qB rfl (fun h2=>?_) (fun h2=>?_)
 ·
  refine qG (qC (.q 0 (.q 1 (.q 2 (.q 3 (.q 4 (.q 5 (.q 6 (.q 7 (.q 8 (.q 9 (.q 10 (.q 11 (.q 12 (.q 13 ((.l 14 [] (.q 15 (.q 16 (.done))))))))))))))))))) Kr ?_)
  refine qL (k:=0) rfl rfl rfl rfl υ'36 rfl ζ'34 rfl ?_
  refine qP (j:=0) rfl rfl rfl rfl α'34 Tk Az (by rfl) ?_
  refine qN rfl rfl rfl rfl rfl (cS _ _ _ _) ?_
  refine qK rfl rfl rfl rfl ?_
  refine cL 33 rfl (fun h10=>?_) (fun h10=>?_)
  ·
   refine qL (k:=2) rfl rfl rfl rfl υ'36 rfl ζ'3 rfl ?_
   refine qP (j:=2) rfl rfl rfl rfl α'3 Tk Az (by rfl) ?_
   refine qL (k:=1) rfl rfl rfl rfl υ'107 rfl ζ'3 rfl ?_
   refine qP (j:=1) rfl rfl rfl rfl α'3 Tk Az (by rfl) ?_
   refine qN rfl rfl rfl rfl rfl (cS _ _ _ _) ?_
   refine kZ rfl rfl rfl rfl rfl (qK rfl rfl rfl rfl ?_)
   refine cL 40 rfl (fun hob=>?_) (fun hob=>?_)
   ·
    refine qK rfl rfl rfl rfl (qL (k:=1) rfl rfl rfl rfl υ'36 rfl ζ'3 rfl ?_)
    refine qP (j:=1) rfl rfl rfl rfl α'3 Tk Az (by rfl) ?_
    refine rk_fold (b:=b) x (pa:=pa) (pc:=pc) (ta:=ta) (tc:=tc) (oa:=oa) (oc:=oc) (ba:=ba) (bc:=bc) Ts (by rfl) (by rfl) (by rfl) (by rfl) ?_
    have sp_2:=rfull_spec pa pc b x hx t
    refine qM rfl rfl rfl rfl rfl rfl Try.call77 (sp_2) Ts ?_
    rintro ⟨⟩ -
    try simp only [List.cons_append,List.nil_append]
    refine qV (cK (A:=rk pa pc b x) Tk ?_)
    refine rk_open fun ta tc oa oc ba bc=>?_
    refine kZ rfl rfl rfl rfl rfl (qR rfl rfl rfl rfl (qS (qW [4] (e':=[(4,_)]) rfl ?_)))
    refine qQ (qJ (qD (rk_fold (b:=b) x (pa:=pa) (pc:=pc) (ta:=ta) (tc:=tc) (oa:=oa) (oc:=oc) (ba:=ba) (bc:=bc) Ts (by rfl) (by rfl) (by rfl) (by rfl) ?_)))
    refine cR rfl rfl (()) (by congr 1;first | (rw [decide_eq_decide,can_wait h2];simp_all;done) | (symm;rw [decide_eq_false_iff_not,can_wait h2];simp_all)) (by trivial) ?_
    exact Tf
   refine qY rfl rfl rfl rfl (qY rfl rfl rfl rfl (qY rfl rfl rfl rfl (sZ rfl rfl rfl rfl ?_)))
   refine kC rfl rfl rfl rfl rfl (qR rfl rfl rfl rfl (qS (qW [4] (e':=[(4,_)]) rfl ?_)))
   refine qQ (qJ (qD (rk_fold (b:=b) x (pa:=pa) (pc:=pc) (ta:=ta) (tc:=tc) (oa:=oa) (oc:=oc) (ba:=ba) (bc:=bc) Ts (by rfl) (by rfl) (by rfl) (by rfl) ?_)))
   refine cR rfl rfl (()) (by congr 1;first | (rw [decide_eq_decide,can_wait h2];simp_all;done) | (symm;rw [decide_eq_false_iff_not,can_wait h2];simp_all)) (by trivial) ?_
   exact Tf
  refine qY rfl rfl rfl rfl (qY rfl rfl rfl rfl (qY rfl rfl rfl rfl (qY rfl rfl rfl rfl (qY rfl rfl rfl rfl (kC rfl rfl rfl rfl rfl (qK rfl rfl rfl rfl (qY rfl rfl rfl rfl (qY rfl rfl rfl rfl ?_))))))))
  refine qY rfl rfl rfl rfl (sZ rfl rfl rfl rfl ?_)
  refine kC rfl rfl rfl rfl rfl (qR rfl rfl rfl rfl (qS (qW [4] (e':=[(4,_)]) rfl ?_)))
  refine qQ (qJ (qD (rk_fold (b:=b) x (pa:=pa) (pc:=pc) (ta:=ta) (tc:=tc) (oa:=oa) (oc:=oc) (ba:=ba) (bc:=bc) Ts (by rfl) (by rfl) (by rfl) (by rfl) ?_)))
  refine cR rfl rfl (()) (by congr 1;first | (rw [decide_eq_decide,can_wait h2];simp_all;done) | (symm;rw [decide_eq_false_iff_not,can_wait h2];simp_all)) (by trivial) ?_
  exact Tf
 refine qF (qQ (qG (qG (qC (.q 0 (.q 1 (.q 2 (.done)))) Kr ?_))))
 refine qL (k:=0) rfl rfl rfl rfl υ'107 rfl ζ'105 rfl ?_
 refine qP (j:=0) rfl rfl rfl rfl α'105 Tk Az (by rfl) ?_
 refine qN rfl rfl rfl rfl rfl (b_neq _ _ _ _) ?_
 refine qS (qW [0,3,48] (e':=[(0,_),(3,_),(48,_)]) rfl ?_)
 refine qQ ?_
 refine qB rfl (fun h1=>?_) (fun h1=>?_)
 ·
  refine qG (qC (.q 0 (.done)) Kr ?_)
  refine qR rfl rfl rfl rfl (qS (qQ (qJ (qD (rk_fold (b:=b) x (pa:=pa) (pc:=pc) (ta:=ta) (tc:=tc) (oa:=oa) (oc:=oc) (ba:=ba) (bc:=bc) Ts (by rfl) (by rfl) (by rfl) (by rfl) ?_)))))
  refine cR rfl rfl (()) (by congr 1;symm;rw [decide_eq_false_iff_not];exact can_not h2 (.inl h1)) (by trivial) ?_
  exact Tf
 have h1:(stF x t).1=1:=by omega
 refine qF (qQ (qG (qG (qC (.q 0 (.q 1 (.done))) Kr ?_))))
 refine qL (k:=0) rfl rfl rfl rfl υ'36 rfl ζ'34 rfl ?_
 refine qP (j:=0) rfl rfl rfl rfl α'34 Tk Az (by rfl) ?_
 refine qS (qQ (kS (qG (qG (qC (.q 0 (.q 1 (.done))) Kr ?_)))))
 refine qN rfl rfl rfl rfl rfl (cS _ _ _ _) ?_
 refine qR rfl rfl rfl rfl (qS (qQ ?_))
 refine qB rfl (fun k1=>?_) (fun k1=>?_)
 ·
  refine kH 51 rfl (v':=.bool true) (by rw [decide_eq_true k1]) ?_
  refine qF (qQ (cN rfl ?_))
  refine qG (kX rfl (.q 0 (.q 1 (.q 2 (.q 3 (.q 4 (.q 5 (.q 6 ((.l 7 [] (.q 8 (.done))))))))))) Kr ?_)
  refine qL (k:=2) rfl rfl rfl rfl υ'36 rfl ζ'3 rfl ?_
  refine qP (j:=2) rfl rfl rfl rfl α'3 Tk Az (by rfl) ?_
  refine qK rfl rfl rfl rfl (qX rfl rfl rfl rfl (qL (k:=0) rfl rfl rfl rfl υ'151 rfl ζ'25 rfl ?_))
  refine qL (k:=1) rfl rfl rfl rfl υ'25 rfl ζ'3 rfl ?_
  refine qP (j:=1) rfl rfl rfl rfl α'3 Tk Az (by rfl) ?_
  have sp_3:=below_spec o x.va
  refine qM rfl rfl rfl rfl rfl rfl κ'76 (sp_3) Ts ?_
  rintro ⟨⟩ -
  try simp only [List.cons_append,List.nil_append]
  refine qV (qR rfl rfl rfl rfl (qS (qW [4] (e':=[(4,_)]) rfl ?_)))
  refine qQ (qJ (cC (qD (rk_fold (b:=b) x (pa:=pa) (pc:=pc) (ta:=ta) (tc:=tc) (oa:=oa) (oc:=oc) (ba:=ba) (bc:=bc) Ts (by rfl) (by rfl) (by rfl) (by rfl) ?_))))
  refine cR rfl rfl (()) (by congr 1;rw [decide_eq_decide,can_run' h1,okK_k.1 (.inl k1)];try rfl) (by trivial) ?_
  exact Tf
 refine kH 51 rfl (v':=.bool false) (by rw [decide_eq_false k1]) ?_
 refine qC (.q 0 (.q 1 (.done))) Kr ?_
 refine qN rfl rfl rfl rfl rfl (cS _ _ _ _) ?_
 refine qR rfl rfl rfl rfl (qS (qW [0,3,50,51] (e':=[(0,_),(3,_),(50,_),(51,_)]) rfl ?_))
 refine qQ ?_
 refine qB rfl (fun k2=>?_) (fun k2=>?_)
 ·
  refine qG (kX rfl (.q 0 (.q 1 (.q 2 (.q 3 (.q 4 (.q 5 (.q 6 ((.l 7 [] (.q 8 (.done))))))))))) Kr ?_)
  refine qL (k:=2) rfl rfl rfl rfl υ'36 rfl ζ'3 rfl ?_
  refine qP (j:=2) rfl rfl rfl rfl α'3 Tk Az (by rfl) ?_
  refine qK rfl rfl rfl rfl (qX rfl rfl rfl rfl (qL (k:=0) rfl rfl rfl rfl υ'151 rfl ζ'25 rfl ?_))
  refine qL (k:=1) rfl rfl rfl rfl υ'25 rfl ζ'3 rfl ?_
  refine qP (j:=1) rfl rfl rfl rfl α'3 Tk Az (by rfl) ?_
  have sp_4:=below_spec o x.va
  refine qM rfl rfl rfl rfl rfl rfl κ'76 (sp_4) Ts ?_
  rintro ⟨⟩ -
  try simp only [List.cons_append,List.nil_append]
  refine qV (qR rfl rfl rfl rfl (qS (qW [4] (e':=[(4,_)]) rfl ?_)))
  refine qQ (qJ (cC (qD (rk_fold (b:=b) x (pa:=pa) (pc:=pc) (ta:=ta) (tc:=tc) (oa:=oa) (oc:=oc) (ba:=ba) (bc:=bc) Ts (by rfl) (by rfl) (by rfl) (by rfl) ?_))))
  refine cR rfl rfl (()) (by congr 1;rw [decide_eq_decide,can_run' h1,okK_k.1 (.inr k2)];try rfl) (by trivial) ?_
  exact Tf
 refine qG (qG (qC (.q 0 (.q 1 (.done))) Kr ?_))
 refine qN rfl rfl rfl rfl rfl (cS _ _ _ _) ?_
 refine qR rfl rfl rfl rfl (qS (qQ ?_))
 refine qB rfl (fun k3=>?_) (fun k3=>?_)
 ·
  refine kH 62 rfl (v':=.bool true) (by rw [decide_eq_true k3]) ?_
  refine qF (qQ (cN rfl ?_))
  refine qG (kX rfl (.q 0 (.q 1 (.q 2 (.q 3 (.q 4 (.q 5 (.q 6 ((.l 7 [] (.q 8 (.done))))))))))) Kr ?_)
  refine qL (k:=2) rfl rfl rfl rfl υ'36 rfl ζ'3 rfl ?_
  refine qP (j:=2) rfl rfl rfl rfl α'3 Tk Az (by rfl) ?_
  refine qK rfl rfl rfl rfl (qX rfl rfl rfl rfl (qL (k:=0) rfl rfl rfl rfl υ'151 rfl ζ'25 rfl ?_))
  refine qL (k:=2) rfl rfl rfl rfl υ'25 rfl ζ'3 rfl ?_
  refine qP (j:=2) rfl rfl rfl rfl α'3 Tk Az (by rfl) ?_
  have sp_5:=below_spec o x.vo
  refine qM rfl rfl rfl rfl rfl rfl κ'76 (sp_5) Ts ?_
  rintro ⟨⟩ -
  try simp only [List.cons_append,List.nil_append]
  refine qV (qR rfl rfl rfl rfl (qS (qW [4] (e':=[(4,_)]) rfl ?_)))
  refine qQ (qJ (cC (qD (rk_fold (b:=b) x (pa:=pa) (pc:=pc) (ta:=ta) (tc:=tc) (oa:=oa) (oc:=oc) (ba:=ba) (bc:=bc) Ts (by rfl) (by rfl) (by rfl) (by rfl) ?_))))
  refine cR rfl rfl (()) (by congr 1;rw [decide_eq_decide,can_run' h1,okK_k.2.1 (.inl k3)];try rfl) (by trivial) ?_
  exact Tf
 refine kH 62 rfl (v':=.bool false) (by rw [decide_eq_false k3]) ?_
 refine qC (.q 0 (.q 1 (.done))) Kr ?_
 refine qN rfl rfl rfl rfl rfl (cS _ _ _ _) ?_
 refine qR rfl rfl rfl rfl (qS (qQ ?_))
 refine qB rfl (fun k4=>?_) (fun k4=>?_)
 ·
  refine qG (kX rfl (.q 0 (.q 1 (.q 2 (.q 3 (.q 4 (.q 5 (.q 6 ((.l 7 [] (.q 8 (.done))))))))))) Kr ?_)
  refine qL (k:=2) rfl rfl rfl rfl υ'36 rfl ζ'3 rfl ?_
  refine qP (j:=2) rfl rfl rfl rfl α'3 Tk Az (by rfl) ?_
  refine qK rfl rfl rfl rfl (qX rfl rfl rfl rfl (qL (k:=0) rfl rfl rfl rfl υ'151 rfl ζ'25 rfl ?_))
  refine qL (k:=2) rfl rfl rfl rfl υ'25 rfl ζ'3 rfl ?_
  refine qP (j:=2) rfl rfl rfl rfl α'3 Tk Az (by rfl) ?_
  have sp_6:=below_spec o x.vo
  refine qM rfl rfl rfl rfl rfl rfl κ'76 (sp_6) Ts ?_
  rintro ⟨⟩ -
  try simp only [List.cons_append,List.nil_append]
  refine qV (qR rfl rfl rfl rfl (qS (qW [4] (e':=[(4,_)]) rfl ?_)))
  refine qQ (qJ (cC (qD (rk_fold (b:=b) x (pa:=pa) (pc:=pc) (ta:=ta) (tc:=tc) (oa:=oa) (oc:=oc) (ba:=ba) (bc:=bc) Ts (by rfl) (by rfl) (by rfl) (by rfl) ?_))))
  refine cR rfl rfl (()) (by congr 1;rw [decide_eq_decide,can_run' h1,okK_k.2.1 (.inr k4)];try rfl) (by trivial) ?_
  exact Tf
 refine qG (qC (.q 0 (.q 1 (.done))) Kr ?_)
 refine qN rfl rfl rfl rfl rfl (cS _ _ _ _) ?_
 refine qR rfl rfl rfl rfl (qS (qW [0,3,50,73] (e':=[(0,_),(3,_),(50,_),(73,_)]) rfl ?_))
 refine qQ ?_
 refine qB rfl (fun k5=>?_) (fun k5=>?_)
 ·
  refine qG (kX rfl (.q 0 (.q 1 (.q 2 (.q 3 (.q 4 (.q 5 (.q 6 ((.l 7 [] (.q 8 (.q 9 (.q 10 (.q 11 (.q 12 (.q 13 (.q 14 (.q 15 (.q 16 (.q 17 (.q 18 (.q 19 (.done)))))))))))))))))))))) Kr ?_)
  refine qL (k:=2) rfl rfl rfl rfl υ'36 rfl ζ'3 rfl ?_
  refine qP (j:=2) rfl rfl rfl rfl α'3 Tk Az (by rfl) ?_
  refine qK rfl rfl rfl rfl (qX rfl rfl rfl rfl (qL (k:=6) rfl rfl rfl rfl υ'151 rfl ζ'23 rfl ?_))
  refine qP (j:=6) rfl rfl rfl rfl α'23 Tk Az (by rfl) ?_
  refine cH rfl rfl rfl rfl υ'23 ?_
  have sp_7:=below_spec o ((x.O.length:Nat):Int)
  refine qM rfl rfl rfl rfl rfl rfl κ'76 (sp_7) Ts ?_
  rintro ⟨⟩ -
  try simp only [List.cons_append,List.nil_append]
  refine qV (qK rfl rfl rfl rfl ?_)
  refine cL 83 rfl (fun hin2=>?_) (fun hin2=>?_)
  ·
   have hel:=owV_at (x:=x) (l:=o) hin2.1 hin2.2
   refine qK rfl rfl rfl rfl (qX rfl rfl rfl rfl (qL (k:=6) rfl rfl rfl rfl υ'151 rfl ζ'23 rfl ?_))
   refine qP (j:=6) rfl rfl rfl rfl α'23 Tk Az (by rfl) ?_
   refine qL (k:=2) rfl rfl rfl rfl υ'36 rfl ζ'3 rfl ?_
   refine qP (j:=2) rfl rfl rfl rfl α'3 Tk Az (by rfl) ?_
   refine kY (sz:=0) (k:=o.toNat) (enc:=encZ) (xs:=x.O) rfl rfl rfl rfl rfl υ'23 ζ'3 hel (by first | rfl | omega) Om Tk ?_
   intro ib90 io90 ha90 hl90 hc90
   refine kQ (v:=(.int .i64 (owV x o))) (j:=0) (k':=o.toNat) (enc:=encZ) (off:=io90) rfl rfl rfl rfl α'3 ha90 encZ_len hel Tk (by first | rfl | exact (Nat.add_zero _).symm | omega) (by rfl) ?_
   refine qN rfl rfl rfl rfl rfl (cS _ _ _ _) ?_
   refine kZ rfl rfl rfl rfl rfl (qR rfl rfl rfl rfl (qS (qW [4] (e':=[(4,_)]) rfl ?_)))
   refine qQ (qJ (cC (qD (rk_fold (b:=b) x (pa:=pa) (pc:=pc) (ta:=ta) (tc:=tc) (oa:=oa) (oc:=oc) (ba:=ba) (bc:=bc) Ts (by rfl) (by rfl) (by rfl) (by rfl) ?_))))
   refine cR rfl rfl (()) (by congr 1;rw [decide_eq_decide,can_run' h1,okK_k.2.2.1 (k5)];rw [owF_n];exact ⟨fun h=>⟨hin2.1,by omega,h⟩,fun h=>h.2.2⟩) (by trivial) ?_
   exact Tf
  refine qY rfl rfl rfl rfl (qY rfl rfl rfl rfl (qY rfl rfl rfl rfl (qY rfl rfl rfl rfl (qY rfl rfl rfl rfl (qY rfl rfl rfl rfl (qY rfl rfl rfl rfl (qY rfl rfl rfl rfl (qY rfl rfl rfl rfl ?_))))))))
  refine kC rfl rfl rfl rfl rfl (qR rfl rfl rfl rfl (qS (qW [4] (e':=[(4,_)]) rfl ?_)))
  refine qQ (qJ (cC (qD (rk_fold (b:=b) x (pa:=pa) (pc:=pc) (ta:=ta) (tc:=tc) (oa:=oa) (oc:=oc) (ba:=ba) (bc:=bc) Ts (by rfl) (by rfl) (by rfl) (by rfl) ?_))))
  refine cR rfl rfl (()) (by congr 1;symm;rw [decide_eq_false_iff_not,can_run' h1,okK_k.2.2.1 (k5)];rintro ⟨q1,q2,-⟩;omega) (by trivial) ?_
  exact Tf
 refine qG (qC (.q 0 (.q 1 (.done))) Kr ?_)
 refine qN rfl rfl rfl rfl rfl (cS _ _ _ _) ?_
 refine qR rfl rfl rfl rfl (qS (qQ ?_))
 refine qB rfl (fun k6=>?_) (fun k6=>?_)
 ·
  refine qG (kX rfl (.q 0 (.q 1 (.q 2 (.q 3 (.q 4 (.q 5 (.q 6 ((.l 7 [] (.q 8 (.q 9 (.q 10 (.q 11 (.q 12 (.q 13 (.q 14 (.q 15 (.q 16 (.q 17 (.q 18 (.q 19 (.q 20 (.q 21 (.done)))))))))))))))))))))))) Kr ?_)
  refine qL (k:=2) rfl rfl rfl rfl υ'36 rfl ζ'3 rfl ?_
  refine qP (j:=2) rfl rfl rfl rfl α'3 Tk Az (by rfl) ?_
  refine qK rfl rfl rfl rfl (qX rfl rfl rfl rfl (qL (k:=6) rfl rfl rfl rfl υ'151 rfl ζ'23 rfl ?_))
  refine qP (j:=6) rfl rfl rfl rfl α'23 Tk Az (by rfl) ?_
  refine cH rfl rfl rfl rfl υ'23 ?_
  have sp_8:=below_spec o ((x.O.length:Nat):Int)
  refine qM rfl rfl rfl rfl rfl rfl κ'76 (sp_8) Ts ?_
  rintro ⟨⟩ -
  try simp only [List.cons_append,List.nil_append]
  refine qV (qK rfl rfl rfl rfl ?_)
  refine cL 104 rfl (fun hin2=>?_) (fun hin2=>?_)
  ·
   have hel:=owV_at (x:=x) (l:=o) hin2.1 hin2.2
   refine qK rfl rfl rfl rfl (qX rfl rfl rfl rfl (qL (k:=6) rfl rfl rfl rfl υ'151 rfl ζ'23 rfl ?_))
   refine qP (j:=6) rfl rfl rfl rfl α'23 Tk Az (by rfl) ?_
   refine qL (k:=2) rfl rfl rfl rfl υ'36 rfl ζ'3 rfl ?_
   refine qP (j:=2) rfl rfl rfl rfl α'3 Tk Az (by rfl) ?_
   refine kY (sz:=0) (k:=o.toNat) (enc:=encZ) (xs:=x.O) rfl rfl rfl rfl rfl υ'23 ζ'3 hel (by first | rfl | omega) Om Tk ?_
   intro ib111 io111 ha111 hl111 hc111
   refine kQ (v:=(.int .i64 (owV x o))) (j:=0) (k':=o.toNat) (enc:=encZ) (off:=io111) rfl rfl rfl rfl α'3 ha111 encZ_len hel Tk (by first | rfl | exact (Nat.add_zero _).symm | omega) (by rfl) ?_
   refine qL (k:=1) rfl rfl rfl rfl υ'36 rfl ζ'3 rfl ?_
   refine qP (j:=1) rfl rfl rfl rfl α'3 Tk Az (by rfl) ?_
   refine qN rfl rfl rfl rfl rfl (cS _ _ _ _) ?_
   refine kZ rfl rfl rfl rfl rfl (qR rfl rfl rfl rfl (qS (qW [4] (e':=[(4,_)]) rfl ?_)))
   refine qQ (qJ (cC (qD (rk_fold (b:=b) x (pa:=pa) (pc:=pc) (ta:=ta) (tc:=tc) (oa:=oa) (oc:=oc) (ba:=ba) (bc:=bc) Ts (by rfl) (by rfl) (by rfl) (by rfl) ?_))))
   refine cR rfl rfl (()) (by congr 1;rw [decide_eq_decide,can_run' h1,okK_k.2.2.2.1 (k6)];rw [owF_s Om];exact ⟨fun h=>⟨hin2.1,by omega,h⟩,fun h=>h.2.2⟩) (by trivial) ?_
   exact Tf
  refine qY rfl rfl rfl rfl (qY rfl rfl rfl rfl (qY rfl rfl rfl rfl (qY rfl rfl rfl rfl (qY rfl rfl rfl rfl (qY rfl rfl rfl rfl (qY rfl rfl rfl rfl (qY rfl rfl rfl rfl (qY rfl rfl rfl rfl ?_))))))))
  refine qY rfl rfl rfl rfl (qY rfl rfl rfl rfl (kC rfl rfl rfl rfl rfl (qR rfl rfl rfl rfl (qS (qW [4] (e':=[(4,_)]) rfl ?_)))))
  refine qQ (qJ (cC (qD (rk_fold (b:=b) x (pa:=pa) (pc:=pc) (ta:=ta) (tc:=tc) (oa:=oa) (oc:=oc) (ba:=ba) (bc:=bc) Ts (by rfl) (by rfl) (by rfl) (by rfl) ?_))))
  refine cR rfl rfl (()) (by congr 1;symm;rw [decide_eq_false_iff_not,can_run' h1,okK_k.2.2.2.1 (k6)];rintro ⟨q1,q2,-⟩;omega) (by trivial) ?_
  exact Tf
 refine qG (qC (.q 0 (.q 1 (.done))) Kr ?_)
 refine qN rfl rfl rfl rfl rfl (cS _ _ _ _) ?_
 refine qR rfl rfl rfl rfl (qS (qW [0,3,50,117] (e':=[(0,_),(3,_),(50,_),(117,_)]) rfl ?_))
 refine qQ ?_
 refine qB rfl (fun k7=>?_) (fun k7=>?_)
 ·
  refine qG (kX rfl (.q 0 (.q 1 (.q 2 (.q 3 (.q 4 (.q 5 (.q 6 ((.l 7 [] (.q 8 (.q 9 (.q 10 (.q 11 (.q 12 (.q 13 (.q 14 (.q 15 (.q 16 (.q 17 (.q 18 (.q 19 (.q 20 (.done))))))))))))))))))))))) Kr ?_)
  refine qL (k:=2) rfl rfl rfl rfl υ'36 rfl ζ'3 rfl ?_
  refine qP (j:=2) rfl rfl rfl rfl α'3 Tk Az (by rfl) ?_
  refine qK rfl rfl rfl rfl (qX rfl rfl rfl rfl (qL (k:=5) rfl rfl rfl rfl υ'151 rfl ζ'149 rfl ?_))
  refine qP (j:=5) rfl rfl rfl rfl α'149 Tk Az (by rfl) ?_
  refine cH rfl rfl rfl rfl υ'149 ?_
  have sp_9:=below_spec o ((x.T.length:Nat):Int)
  refine qM rfl rfl rfl rfl rfl rfl κ'76 (sp_9) Ts ?_
  rintro ⟨⟩ -
  try simp only [List.cons_append,List.nil_append]
  refine qV (qK rfl rfl rfl rfl ?_)
  refine cL 127 rfl (fun hin2=>?_) (fun hin2=>?_)
  ·
   have hel:=stF_at (x:=x) (t:=o) hin2.1 hin2.2
   refine qK rfl rfl rfl rfl (qX rfl rfl rfl rfl (qL (k:=5) rfl rfl rfl rfl υ'151 rfl ζ'149 rfl ?_))
   refine qP (j:=5) rfl rfl rfl rfl α'149 Tk Az (by rfl) ?_
   refine qL (k:=2) rfl rfl rfl rfl υ'36 rfl ζ'3 rfl ?_
   refine qP (j:=2) rfl rfl rfl rfl α'3 Tk Az (by rfl) ?_
   refine kY (sz:=2) (k:=o.toNat) (enc:=enc3) (xs:=x.T) rfl rfl rfl rfl rfl υ'149 ζ'107 hel (by first | rfl | omega) Om Tk ?_
   intro ib134 io134 ha134 hl134 hc134
   refine qL (k:=0) rfl rfl rfl rfl υ'107 rfl ζ'105 rfl ?_
   refine kQ (v:=(.int .i64 ((stF x o).1))) (j:=0) (k':=o.toNat) (enc:=enc3) (off:=io134) rfl rfl rfl rfl α'105 ha134 enc3_len hel Tk (by first | rfl | exact (Nat.add_zero _).symm | omega) (by rfl) ?_
   refine qN rfl rfl rfl rfl rfl (cS _ _ _ _) ?_
   refine kZ rfl rfl rfl rfl rfl (qR rfl rfl rfl rfl (qS (qW [4] (e':=[(4,_)]) rfl ?_)))
   refine qQ (qJ (cC (qD (rk_fold (b:=b) x (pa:=pa) (pc:=pc) (ta:=ta) (tc:=tc) (oa:=oa) (oc:=oc) (ba:=ba) (bc:=bc) Ts (by rfl) (by rfl) (by rfl) (by rfl) ?_))))
   refine cR rfl rfl (()) (by congr 1;rw [decide_eq_decide,can_run' h1,okK_k.2.2.2.2.1 (k7)];omega) (by trivial) ?_
   exact Tf
  refine qY rfl rfl rfl rfl (qY rfl rfl rfl rfl (qY rfl rfl rfl rfl (qY rfl rfl rfl rfl (qY rfl rfl rfl rfl (qY rfl rfl rfl rfl (qY rfl rfl rfl rfl (qY rfl rfl rfl rfl (qY rfl rfl rfl rfl ?_))))))))
  refine qY rfl rfl rfl rfl (kC rfl rfl rfl rfl rfl (qR rfl rfl rfl rfl (qS (qW [4] (e':=[(4,_)]) rfl ?_))))
  refine qQ (qJ (cC (qD (rk_fold (b:=b) x (pa:=pa) (pc:=pc) (ta:=ta) (tc:=tc) (oa:=oa) (oc:=oc) (ba:=ba) (bc:=bc) Ts (by rfl) (by rfl) (by rfl) (by rfl) ?_))))
  refine cR rfl rfl (()) (by congr 1;symm;rw [decide_eq_false_iff_not,can_run' h1,okK_k.2.2.2.2.1 (k7)];rintro ⟨q1,q2,-⟩;omega) (by trivial) ?_
  exact Tf
 refine qG (qC (.q 0 (.q 1 (.done))) Kr ?_)
 refine qN rfl rfl rfl rfl rfl (cS _ _ _ _) ?_
 refine qR rfl rfl rfl rfl (qS (qQ ?_))
 refine qB rfl (fun k8=>?_) (fun k8=>?_)
 ·
  refine qG (kX rfl (.q 0 (.q 1 (.q 2 (.q 3 (.q 4 (.q 5 (.q 6 ((.l 7 [] (.q 8 (.q 9 (.q 10 (.q 11 (.q 12 (.q 13 (.q 14 (.q 15 (.q 16 (.q 17 (.q 18 (.q 19 (.q 20 (.done))))))))))))))))))))))) Kr ?_)
  refine qL (k:=2) rfl rfl rfl rfl υ'36 rfl ζ'3 rfl ?_
  refine qP (j:=2) rfl rfl rfl rfl α'3 Tk Az (by rfl) ?_
  refine qK rfl rfl rfl rfl (qX rfl rfl rfl rfl (qL (k:=5) rfl rfl rfl rfl υ'151 rfl ζ'149 rfl ?_))
  refine qP (j:=5) rfl rfl rfl rfl α'149 Tk Az (by rfl) ?_
  refine cH rfl rfl rfl rfl υ'149 ?_
  have sp_10:=below_spec o ((x.T.length:Nat):Int)
  refine qM rfl rfl rfl rfl rfl rfl κ'76 (sp_10) Ts ?_
  rintro ⟨⟩ -
  try simp only [List.cons_append,List.nil_append]
  refine qV (qK rfl rfl rfl rfl ?_)
  refine cL 149 rfl (fun hin2=>?_) (fun hin2=>?_)
  ·
   have hel:=stF_at (x:=x) (t:=o) hin2.1 hin2.2
   refine qK rfl rfl rfl rfl (qX rfl rfl rfl rfl (qL (k:=5) rfl rfl rfl rfl υ'151 rfl ζ'149 rfl ?_))
   refine qP (j:=5) rfl rfl rfl rfl α'149 Tk Az (by rfl) ?_
   refine qL (k:=2) rfl rfl rfl rfl υ'36 rfl ζ'3 rfl ?_
   refine qP (j:=2) rfl rfl rfl rfl α'3 Tk Az (by rfl) ?_
   refine kY (sz:=2) (k:=o.toNat) (enc:=enc3) (xs:=x.T) rfl rfl rfl rfl rfl υ'149 ζ'107 hel (by first | rfl | omega) Om Tk ?_
   intro ib156 io156 ha156 hl156 hc156
   refine qL (k:=0) rfl rfl rfl rfl υ'107 rfl ζ'105 rfl ?_
   refine kQ (v:=(.int .i64 ((stF x o).1))) (j:=0) (k':=o.toNat) (enc:=enc3) (off:=io156) rfl rfl rfl rfl α'105 ha156 enc3_len hel Tk (by first | rfl | exact (Nat.add_zero _).symm | omega) (by rfl) ?_
   refine qN rfl rfl rfl rfl rfl (cS _ _ _ _) ?_
   refine kZ rfl rfl rfl rfl rfl (qR rfl rfl rfl rfl (qS (qW [4] (e':=[(4,_)]) rfl ?_)))
   refine qQ (qJ (cC (qD (rk_fold (b:=b) x (pa:=pa) (pc:=pc) (ta:=ta) (tc:=tc) (oa:=oa) (oc:=oc) (ba:=ba) (bc:=bc) Ts (by rfl) (by rfl) (by rfl) (by rfl) ?_))))
   refine cR rfl rfl (()) (by congr 1;rw [decide_eq_decide,can_run' h1,okK_k.2.2.2.2.2.1 (k8)];omega) (by trivial) ?_
   exact Tf
  refine qY rfl rfl rfl rfl (qY rfl rfl rfl rfl (qY rfl rfl rfl rfl (qY rfl rfl rfl rfl (qY rfl rfl rfl rfl (qY rfl rfl rfl rfl (qY rfl rfl rfl rfl (qY rfl rfl rfl rfl (qY rfl rfl rfl rfl ?_))))))))
  refine qY rfl rfl rfl rfl (kC rfl rfl rfl rfl rfl (qR rfl rfl rfl rfl (qS (qW [4] (e':=[(4,_)]) rfl ?_))))
  refine qQ (qJ (cC (qD (rk_fold (b:=b) x (pa:=pa) (pc:=pc) (ta:=ta) (tc:=tc) (oa:=oa) (oc:=oc) (ba:=ba) (bc:=bc) Ts (by rfl) (by rfl) (by rfl) (by rfl) ?_))))
  refine cR rfl rfl (()) (by congr 1;symm;rw [decide_eq_false_iff_not,can_run' h1,okK_k.2.2.2.2.2.1 (k8)];rintro ⟨q1,q2,-⟩;omega) (by trivial) ?_
  exact Tf
 refine qG (qC (.q 0 (.q 1 (.done))) Kr ?_)
 refine qN rfl rfl rfl rfl rfl (cS _ _ _ _) ?_
 refine qR rfl rfl rfl rfl (qS (qW [0,3,50,161] (e':=[(0,_),(3,_),(50,_),(161,_)]) rfl ?_))
 refine qQ ?_
 refine qB rfl (fun k9=>?_) (fun k9=>?_)
 ·
  refine qG (kX rfl (.q 0 (.q 1 (.q 2 (.q 3 (.q 4 (.q 5 (.q 6 ((.l 7 [] (.q 8 (.done))))))))))) Kr ?_)
  refine qL (k:=2) rfl rfl rfl rfl υ'36 rfl ζ'3 rfl ?_
  refine qP (j:=2) rfl rfl rfl rfl α'3 Tk Az (by rfl) ?_
  refine qK rfl rfl rfl rfl (qX rfl rfl rfl rfl (qL (k:=7) rfl rfl rfl rfl υ'151 rfl ζ'144 rfl ?_))
  refine qP (j:=7) rfl rfl rfl rfl α'144 Tk Az (by rfl) ?_
  refine cH rfl rfl rfl rfl υ'144 ?_
  have sp_11:=below_spec o ((x.B.length:Nat):Int)
  refine qM rfl rfl rfl rfl rfl rfl κ'76 (sp_11) Ts ?_
  rintro ⟨⟩ -
  try simp only [List.cons_append,List.nil_append]
  refine qV (qR rfl rfl rfl rfl (qS (qW [4] (e':=[(4,_)]) rfl ?_)))
  refine qQ (qJ (cC (qD (rk_fold (b:=b) x (pa:=pa) (pc:=pc) (ta:=ta) (tc:=tc) (oa:=oa) (oc:=oc) (ba:=ba) (bc:=bc) Ts (by rfl) (by rfl) (by rfl) (by rfl) ?_))))
  refine cR rfl rfl (()) (by congr 1;rw [decide_eq_decide,can_run' h1,okK_k.2.2.2.2.2.2.1 (k9)];try rfl) (by trivial) ?_
  exact Tf
 refine qG (qC (.q 0 (.q 1 (.done))) Kr ?_)
 refine qN rfl rfl rfl rfl rfl (cS _ _ _ _) ?_
 refine qR rfl rfl rfl rfl (qS (qW [3,171] (e':=[(3,_),(171,_)]) rfl ?_))
 refine qQ ?_
 refine qB rfl (fun k11=>?_) (fun k11=>?_)
 ·
  refine qG (qC (.q 0 (.q 1 (.q 2 (.q 3 (.done))))) Kr ?_)
  refine qL (k:=2) rfl rfl rfl rfl υ'36 rfl ζ'3 rfl ?_
  refine qP (j:=2) rfl rfl rfl rfl α'3 Tk Az (by rfl) ?_
  refine qN rfl rfl rfl rfl rfl (cS _ _ _ _) ?_
  refine qR rfl rfl rfl rfl (qS (qW [4] (e':=[(4,_)]) rfl ?_))
  refine qQ (qJ (cC (qD (rk_fold (b:=b) x (pa:=pa) (pc:=pc) (ta:=ta) (tc:=tc) (oa:=oa) (oc:=oc) (ba:=ba) (bc:=bc) Ts (by rfl) (by rfl) (by rfl) (by rfl) ?_))))
  refine cR rfl rfl (()) (by congr 1;rw [decide_eq_decide,can_run' h1,okK_k.2.2.2.2.2.2.2.1 (k11)];omega) (by trivial) ?_
  exact Tf
 refine qF (kK (qQ (qG (qC (.q 0 (.done)) Kr ?_))))
 refine qR rfl rfl rfl rfl (qS (qQ (qJ (rk_fold (b:=b) x (pa:=pa) (pc:=pc) (ta:=ta) (tc:=tc) (oa:=oa) (oc:=oc) (ba:=ba) (bc:=bc) Ts (by rfl) (by rfl) (by rfl) (by rfl) ?_))))
 refine cR rfl rfl (()) (by congr 1;symm;rw [decide_eq_false_iff_not,can_run' h1];exact fun h=>okK_k.2.2.2.2.2.2.2.2 k1 k2 k3 k4 k5 k6 k7 k8 k9 k11 h.2) (by trivial) ?_
 exact Tf
end Go.Ab.Fe
set_option linter.unusedVariables false
set_option linter.unusedSimpArgs false
set_option maxRecDepth 100000
namespace Go.Ab.Fe
open Go Go.Proofs Go.Ab
theorem rnext_spec (pa:Option Addr) (pc b:Nat) (x:CS) (hx:CInv x) (hn:x.n≤1000000000000000) (pl:List Int) (hpl:x.pa=pl) (k t o:Int):Spec Try.prog 38 [.pointer (some ⟨b,0,none⟩),.agg #[.int .i64 k,.int .i64 t,.int .i64 o]] [rk pa pc b x,own 1 encZ pa pc pl] (fun (_:Unit)=>.int .i64 (nxE x k t o)) (fun _=>True) (fun _=>[rk pa pc b (nxF x k t o),own 1 encZ pa pc pl]):=by
 refine kP (n:=123) Try.func38 rfl rfl rfl ?_
 intro Γ w0
 simp only [argE,List.cons_append,List.nil_append,Nat.zero_add,Nat.reduceAdd]
 have hn0:=hx.n0
 have htl:=hx.tl
 have hol:=hx.ol
 have hbl:=hx.bl
 refine qG (qC ((.l 0 [] (.q 1 (.done)))) Kr ?_)
 refine sX rfl rfl rfl rfl (us:=[_,_,_]) rfl ?_
 intro b3
 refine qV (qR rfl rfl rfl rfl (qS (qQ (qG (qG (qC (.q 0 (.q 1 (.done))) Kr ?_))))))
 refine qK rfl rfl rfl rfl (cY rfl rfl rfl rfl υ'91 ?_)
 refine kH 8 rfl (v':=.bool false) rfl ?_
 refine qS (qQ (kB rfl ?_))
 refine qF (qQ (qG (qC (.q 0 (.q 1 ((.l 2 [] (.q 3 (.done)))))) Kr ?_)))
 refine qK rfl rfl rfl rfl (kN rfl rfl rfl rfl α'36 ζ'36 Tk 0 (us:=[_,_,_]) Az rfl rfl ?_)
 have sp_1:=rcan_spec pa pc b x hx k t o
 refine qM rfl rfl rfl rfl rfl rfl κ'33 (sp_1) Ts ?_
 rintro ⟨⟩ -
 try simp only [List.cons_append,List.nil_append]
 refine qV (qR rfl rfl rfl rfl (qS (qW [0,3,5] (e':=[(0,_),(3,_),(5,_)]) rfl ?_)))
 refine qQ (qG (qG (qC (.q 0 (.q 1 (.done))) Kr ?_)))
 refine qK rfl rfl rfl rfl (rL rfl rfl rfl rfl ?_)
 refine qS (qQ ?_)
 refine c_cond_np rfl (fun hc=>?_) (fun hc=>?_)
 ·
  refine qG (qC (.q 0 (.done)) Kr ?_)
  refine qR rfl rfl rfl rfl (qS (qW [4] (e':=[(4,_)]) rfl ?_))
  refine qQ (qJ (qD ?_))
  rw [show nxF x k t o=x from if_neg hc]
  refine cR rfl rfl (()) (by rw [show nxE x k t o=6 from if_neg hc]) (by trivial) ?_
  exact Tf
 obtain ⟨o5,o7,o9,o10,o11⟩:=can_obj hx hc
 obtain ⟨n5,n6,n7,n9,n10,n11,nn⟩:=nxF_k hc
 obtain ⟨t0,t1,t2⟩:=stF_nz (can_th hc)
 refine qF (qQ (qG (cK (A:=rk pa pc b x) Tk ?_)))
 refine rk_open fun ta tc oa oc ba bc=>?_
 refine qC (.q 0 (.q 1 (.q 2 (.q 3 (.q 4 (.q 5 (.q 6 ((.l 7 [] (.done)))))))))) Kr ?_
 refine qK rfl rfl rfl rfl (qX rfl rfl rfl rfl (qL (k:=8) rfl rfl rfl rfl υ'151 rfl ζ'3 rfl ?_))
 refine qP (j:=8) rfl rfl rfl rfl α'3 Tk Az (by rfl) ?_
 refine qN rfl rfl rfl rfl rfl (cV _ (by exact kG Om Om)) ?_
 refine qX rfl rfl rfl rfl (qL (k:=8) rfl rfl rfl rfl υ'151 rfl ζ'3 rfl ?_)
 refine kR (j:=8) rfl rfl rfl rfl ζ'3 (us:=[_]) rfl rfl rfl Tk Az (by first | decide | (simp;done) | omega) ?_
 simp only [setL,List.set]
 refine qV (qS (qW [0,3] (e':=[(0,_),(3,_)]) rfl ?_))
 refine qQ (qG (qG (qC (.q 0 (.q 1 (.done))) Kr ?_)))
 refine qL (k:=0) rfl rfl rfl rfl υ'36 rfl ζ'34 rfl ?_
 refine qP (j:=0) rfl rfl rfl rfl α'34 Tk Az (by rfl) ?_
 refine qS (qQ (kS (qG (qC (.q 0 (.q 1 (.done))) Kr ?_))))
 refine qN rfl rfl rfl rfl rfl (cS _ _ _ _) ?_
 refine qR rfl rfl rfl rfl (qS (qQ ?_))
 refine qB rfl (fun k5=>?_) (fun k5=>?_)
 ·
  have hel:=owV_at (x:=x) (l:=o) (o5 (.inl k5)).1 (by have:=(o5 (.inl k5)).2;omega)
  have q5:=o5 (.inl k5)
  refine kX rfl (.q 0 (.q 1 (.q 2 (.q 3 (.q 4 (.q 5 (.q 6 (.q 7 (.q 8 ((.l 9 [] (.done)))))))))))) Kr ?_
  refine qK rfl rfl rfl rfl (qX rfl rfl rfl rfl (qL (k:=6) rfl rfl rfl rfl υ'151 rfl ζ'23 rfl ?_))
  refine qP (j:=6) rfl rfl rfl rfl α'23 Tk Az (by rfl) ?_
  refine qL (k:=2) rfl rfl rfl rfl υ'36 rfl ζ'3 rfl ?_
  refine qP (j:=2) rfl rfl rfl rfl α'3 Tk Az (by rfl) ?_
  refine qL (k:=1) rfl rfl rfl rfl υ'36 rfl ζ'3 rfl ?_
  refine qP (j:=1) rfl rfl rfl rfl α'3 Tk Az (by rfl) ?_
  refine kY (sz:=0) (k:=o.toNat) (enc:=encZ) (xs:=x.O) rfl rfl rfl rfl rfl υ'23 ζ'3 hel (by first | rfl | omega) Om Tk ?_
  intro ib33 io33 ha33 hl33 hc33
  refine kJ (j:=0) (k:=o.toNat) (q:=t) (enc:=encZ) (off:=io33) rfl rfl rfl rfl ζ'3 (us:=[_]) rfl rfl rfl ha33 encZ_len hel Tk (by first | rfl | exact (Nat.add_zero _).symm | omega) (by first | decide | exact Nat.le_of_ble_eq_true rfl) (by rfl) ?_
  refine qV (qS (qW [] (e':=[]) rfl ?_))
  refine kK (qQ (qG (qC (.q 0 (.done)) Kr ?_)))
  refine qR rfl rfl rfl rfl (qS (qQ (qJ ?_)))
  rw [n5 k5]
  refine rk_fold (b:=b) (⟨x.th,x.va,x.vo,x.lk,x.pa,x.T,x.O.set o.toNat t,x.B,x.n+1⟩) (pa:=pa) (pc:=pc) (ta:=ta) (tc:=tc) (oa:=oa) (oc:=oc) (ba:=ba) (bc:=bc) Ts (by rfl) (by rfl) (by simp) (by rfl) ?_
  refine cR rfl rfl (()) (by rw [show nxE x k t o=0 from if_pos hc]) (by trivial) ?_
  exact Tf
 refine qG (qC (.q 0 (.q 1 (.done))) Kr ?_)
 refine qN rfl rfl rfl rfl rfl (cS _ _ _ _) ?_
 refine qR rfl rfl rfl rfl (qS (qW [0,3,22,34] (e':=[(0,_),(3,_),(22,_),(34,_)]) rfl ?_))
 refine qQ ?_
 refine qB rfl (fun k6=>?_) (fun k6=>?_)
 ·
  have hel:=owV_at (x:=x) (l:=o) (o5 (.inr k6)).1 (by have:=(o5 (.inr k6)).2;omega)
  have q5:=o5 (.inr k6)
  refine kX rfl (.q 0 (.q 1 (.q 2 (.q 3 (.q 4 (.q 5 (.q 6 ((.l 7 [] (.done)))))))))) Kr ?_
  refine qK rfl rfl rfl rfl (qX rfl rfl rfl rfl (qL (k:=6) rfl rfl rfl rfl υ'151 rfl ζ'23 rfl ?_))
  refine qP (j:=6) rfl rfl rfl rfl α'23 Tk Az (by rfl) ?_
  refine qL (k:=2) rfl rfl rfl rfl υ'36 rfl ζ'3 rfl ?_
  refine qP (j:=2) rfl rfl rfl rfl α'3 Tk Az (by rfl) ?_
  refine kY (sz:=0) (k:=o.toNat) (enc:=encZ) (xs:=x.O) rfl rfl rfl rfl rfl υ'23 ζ'3 hel (by first | rfl | omega) Om Tk ?_
  intro ib42 io42 ha42 hl42 hc42
  refine kJ (j:=0) (k:=o.toNat) (q:=(-1)) (enc:=encZ) (off:=io42) rfl rfl rfl rfl ζ'3 (us:=[_]) rfl rfl rfl ha42 encZ_len hel Tk (by first | rfl | exact (Nat.add_zero _).symm | omega) (by first | decide | exact Nat.le_of_ble_eq_true rfl) (by rfl) ?_
  refine qV (qS (qW [] (e':=[]) rfl ?_))
  refine kK (qQ (qG (qC (.q 0 (.done)) Kr ?_)))
  refine qR rfl rfl rfl rfl (qS (qQ (qJ ?_)))
  rw [n6 k6]
  refine rk_fold (b:=b) (⟨x.th,x.va,x.vo,x.lk,x.pa,x.T,x.O.set o.toNat (-1),x.B,x.n+1⟩) (pa:=pa) (pc:=pc) (ta:=ta) (tc:=tc) (oa:=oa) (oc:=oc) (ba:=ba) (bc:=bc) Ts (by rfl) (by rfl) (by simp) (by rfl) ?_
  refine cR rfl rfl (()) (by rw [show nxE x k t o=0 from if_pos hc]) (by trivial) ?_
  exact Tf
 refine qG (qC (.q 0 (.q 1 (.done))) Kr ?_)
 refine qN rfl rfl rfl rfl rfl (cS _ _ _ _) ?_
 refine qR rfl rfl rfl rfl (qS (qQ ?_))
 refine qB rfl (fun k7=>?_) (fun k7=>?_)
 ·
  have q7:=o7 k7
  have hel:=stF_at (x:=x) (t:=o) q7.1 Om
  have hz:(stF x o).2=(0,0):=(stF_inv hx o).2.2.2 (by rw [q7.2.2];decide)
  refine kX rfl (.q 0 (.q 1 (.q 2 (.q 3 (.q 4 (.q 5 (.q 6 (.q 7 ((.l 8 [] (.done))))))))))) Kr ?_
  refine qK rfl rfl rfl rfl (qX rfl rfl rfl rfl (qL (k:=5) rfl rfl rfl rfl υ'151 rfl ζ'149 rfl ?_))
  refine qP (j:=5) rfl rfl rfl rfl α'149 Tk Az (by rfl) ?_
  refine qL (k:=2) rfl rfl rfl rfl υ'36 rfl ζ'3 rfl ?_
  refine qP (j:=2) rfl rfl rfl rfl α'3 Tk Az (by rfl) ?_
  refine kY (sz:=2) (k:=o.toNat) (enc:=enc3) (xs:=x.T) rfl rfl rfl rfl rfl υ'149 ζ'107 hel (by first | rfl | omega) Om Tk ?_
  intro ib51 io51 ha51 hl51 hc51
  refine qL (k:=0) rfl rfl rfl rfl υ'107 rfl ζ'105 rfl ?_
  refine kJ (j:=0) (k:=o.toNat) (q:=(1,0,0)) (enc:=enc3) (off:=io51) rfl rfl rfl rfl ζ'105 (us:=[_]) rfl rfl rfl ha51 enc3_len hel Tk (by first | rfl | exact (Nat.add_zero _).symm | omega) (by first | decide | exact Nat.le_of_ble_eq_true rfl) (by show [Value.int .i64 1,.int .i64 0,.int .i64 0]=[Value.int .i64 1,.int .i64 (stF x o).2.1,.int .i64 (stF x o).2.2];rw [hz]) ?_
  refine qV (qS (qW [] (e':=[]) rfl ?_))
  refine kK (qQ (qG (qC (.q 0 (.done)) Kr ?_)))
  refine qR rfl rfl rfl rfl (qS (qQ (qJ ?_)))
  rw [n7 k7]
  refine rk_fold (b:=b) (⟨x.th,x.va,x.vo,x.lk,x.pa,x.T.set o.toNat (1,0,0),x.O,x.B,x.n+1⟩) (pa:=pa) (pc:=pc) (ta:=ta) (tc:=tc) (oa:=oa) (oc:=oc) (ba:=ba) (bc:=bc) Ts (by rfl) (by simp) (by rfl) (by rfl) ?_
  refine cR rfl rfl (()) (by rw [show nxE x k t o=0 from if_pos hc]) (by trivial) ?_
  exact Tf
 refine qG (qC (.q 0 (.q 1 (.done))) Kr ?_)
 refine qN rfl rfl rfl rfl rfl (cS _ _ _ _) ?_
 refine qR rfl rfl rfl rfl (qS (qW [0,3,22,53] (e':=[(0,_),(3,_),(22,_),(53,_)]) rfl ?_))
 refine qQ ?_
 refine qB rfl (fun k9=>?_) (fun k9=>?_)
 ·
  refine qG ?_
  obtain ⟨p0,p1,p2,p3⟩:=o9 k9
  have hop:=opF_at (x:=x) (b:=o) p0 Om
  obtain ⟨pp,hpp⟩:=cP p2
  have hbp:=hx.op _ _ _ hop hpp
  have hpr:=hx.sh.pa pp (List.mem_of_getElem? hpp)
  refine kX rfl (.q 0 (.q 1 (.q 2 (.q 3 (.q 4 (.q 5 (.q 6 (.q 7 ((.l 8 [3,5,7] ((.l 9 [] (.done))))))))))))) Kr ?_
  refine qK rfl rfl rfl rfl (qX rfl rfl rfl rfl (qL (k:=7) rfl rfl rfl rfl υ'151 rfl ζ'144 rfl ?_))
  refine qP (j:=7) rfl rfl rfl rfl α'144 Tk Az (by rfl) ?_
  refine qL (k:=2) rfl rfl rfl rfl υ'36 rfl ζ'3 rfl ?_
  refine qP (j:=2) rfl rfl rfl rfl α'3 Tk Az (by rfl) ?_
  refine kY (sz:=1) (k:=o.toNat) (enc:=enc2) (xs:=x.B) rfl rfl rfl rfl rfl υ'144 ζ'153 hop (by first | rfl | omega) Om Tk ?_
  intro ib61 io61 ha61 hl61 hc61
  refine q_loadN_O (j:=0) (k':=o.toNat) (us:=[_,_]) (enc:=enc2) (off:=io61) rfl rfl rfl rfl α'153 ζ'153 ha61 enc2_len hop Tk (by first | rfl | exact (Nat.add_zero _).symm | omega) (by rfl) rfl ?_
  refine cF rfl rfl rfl ω'153 (zs:=[.int .i64 0,.int .i64 0]) rfl ?_
  intro b6
  refine qH (q:=7) rfl rfl rfl α'144 Tk Az (by rfl) ?_
  refine qH (q:=2) rfl rfl rfl α'3 Tk Az (by rfl) ?_
  refine ag_loadN_O (j:=0) (k':=o.toNat) (us:=[_,_]) (enc:=enc2) (off:=io61) rfl rfl rfl α'153 ζ'153 ha61 enc2_len hop Tk (by first | rfl | exact (Nat.add_zero _).symm | omega) (by rfl) rfl ?_
  refine qV (kR (j:=0) rfl rfl rfl rfl ζ'153 (us:=[_,_]) rfl rfl rfl Tk Az (by first | decide | (simp;done) | omega) ?_)
  simp only [setL,List.set]
  refine qV (qS (qW [0,3,6] (e':=[(0,_),(3,_),(6,_)]) rfl ?_))
  refine qQ (qG (kX rfl (.q 0 (.q 1 (.q 2 (.q 3 (.q 4 (.q 5 (.q 6 (.q 7 (.q 8 (.q 9 (.q 10 (.q 11 ((.l 12 [] (.done))))))))))))))) Kr ?_))
  refine qK rfl rfl rfl rfl (qX rfl rfl rfl rfl (qL (k:=5) rfl rfl rfl rfl υ'151 rfl ζ'149 rfl ?_))
  refine qP (j:=5) rfl rfl rfl rfl α'149 Tk Az (by rfl) ?_
  refine qL (k:=1) rfl rfl rfl rfl υ'36 rfl ζ'3 rfl ?_
  refine qP (j:=1) rfl rfl rfl rfl α'3 Tk Az (by rfl) ?_
  refine qL (k:=2) rfl rfl rfl rfl υ'36 rfl ζ'3 rfl ?_
  refine qP (j:=2) rfl rfl rfl rfl α'3 Tk Az (by rfl) ?_
  refine qL (k:=0) rfl rfl rfl rfl υ'153 rfl ζ'3 rfl ?_
  refine qP (j:=0) rfl rfl rfl rfl α'3 Tk Az (by rfl) ?_
  refine cX rfl rfl rfl rfl (vs:=[_,_,_]) (kM υ'107 ω'107 (ps:=[(0,1),(1,1),(2,1)]) ⟨rfl,ζ'105,rfl,ζ'3,rfl,ζ'3,trivial⟩ rfl) ?_
  refine kY (sz:=2) (k:=t.toNat) (enc:=enc3) (xs:=x.T) rfl rfl rfl rfl rfl υ'149 ζ'107 t2 (by first | rfl | omega) Om Tk ?_
  intro ib74 io74 ha74 hl74 hc74
  refine kJ (j:=0) (k:=t.toNat) (q:=(2,o,(opF x o).1)) (enc:=enc3) (off:=io74) rfl rfl rfl rfl ζ'107 (us:=[_,_,_]) rfl rfl rfl ha74 enc3_len t2 Tk (by first | rfl | exact (Nat.add_zero _).symm | omega) (by first | decide | exact Nat.le_of_ble_eq_true rfl) (by rfl) ?_
  refine qV (qS (qW [0,3,6] (e':=[(0,_),(3,_),(6,_)]) rfl ?_))
  refine qQ (qG (qC (.q 0 (.q 1 (.q 2 (.q 3 ((.l 4 [] (.done))))))) Kr ?_))
  refine qL (k:=1) rfl rfl rfl rfl υ'153 rfl ζ'3 rfl ?_
  refine qP (j:=1) rfl rfl rfl rfl α'3 Tk Az (by rfl) ?_
  refine qN rfl rfl rfl rfl rfl (cV _ (by exact kG Om Om)) ?_
  refine qL (k:=1) rfl rfl rfl rfl υ'153 rfl ζ'3 rfl ?_
  refine kR (j:=1) rfl rfl rfl rfl ζ'3 (us:=[_]) rfl rfl rfl Tk Az (by first | decide | (simp;done) | omega) ?_
  simp only [setL,List.set]
  refine qV (qS (qW [0,3,6] (e':=[(0,_),(3,_),(6,_)]) rfl ?_))
  refine qQ (qG (qG ?_))
  rw [hpl] at hpp p2
  refine kX rfl (.q 0 (.q 1 (.q 2 (.q 3 (.q 4 (.q 5 (.q 6 (.q 7 (.q 8 (.q 9 (.q 10 (.q 11 (.done))))))))))))) Kr ?_
  refine qL (k:=1) rfl rfl rfl rfl υ'153 rfl ζ'3 rfl ?_
  refine qP (j:=1) rfl rfl rfl rfl α'3 Tk Az (by rfl) ?_
  refine qK rfl rfl rfl rfl (qX rfl rfl rfl rfl (qL (k:=0) rfl rfl rfl rfl υ'151 rfl ζ'25 rfl ?_))
  refine qL (k:=4) rfl rfl rfl rfl υ'25 rfl ζ'23 rfl ?_
  refine qP (j:=4) rfl rfl rfl rfl α'23 Tk Az (by rfl) ?_
  refine qL (k:=2) rfl rfl rfl rfl υ'36 rfl ζ'3 rfl ?_
  refine qP (j:=2) rfl rfl rfl rfl α'3 Tk Az (by rfl) ?_
  refine kY (sz:=0) (k:=o.toNat) (enc:=encZ) (xs:=pl) rfl rfl rfl rfl rfl υ'23 ζ'3 hpp Om (by rw [hpl];omega) Tk ?_
  intro ib88 io88 ha88 hl88 hc88
  refine kQ (v:=(.int .i64 pp)) (j:=0) (k':=o.toNat) (enc:=encZ) (off:=io88) rfl rfl rfl rfl α'3 ha88 encZ_len hpp Tk (by first | rfl | exact (Nat.add_zero _).symm | omega) (by rfl) ?_
  refine qN rfl rfl rfl rfl rfl (cS _ _ _ _) ?_
  refine qS (qW [0,3,6,90] (e':=[(0,_),(3,_),(6,_),(90,_)]) rfl ?_)
  refine qQ ?_
  refine qB rfl (fun hful=>?_) (fun hful=>?_)
  ·
   refine qC (.q 0 (.q 1 (.q 2 (.q 3 ((.l 4 [] (.done))))))) Kr ?_
   refine qL (k:=0) rfl rfl rfl rfl υ'153 rfl ζ'3 rfl ?_
   refine qP (j:=0) rfl rfl rfl rfl α'3 Tk Az (by rfl) ?_
   refine qN rfl rfl rfl rfl rfl (cV _ (by exact kG Om Om)) ?_
   refine cX rfl rfl rfl rfl (vs:=[_,_]) (kM υ'153 ω'153 (ps:=[(0,1),(1,1)]) ⟨rfl,ζ'3,rfl,ζ'3,trivial⟩ rfl) ?_
   refine kR (j:=0) rfl rfl rfl rfl ζ'153 (us:=[_,_]) rfl rfl rfl Tk Az (by first | decide | (simp;done) | omega) ?_
   simp only [setL,List.set]
   refine qV (qS (qW [0,3,6] (e':=[(0,_),(3,_),(6,_)]) rfl ?_))
   refine qQ (kX rfl (.q 0 (.q 1 (.q 2 (.q 3 (.q 4 (.q 5 (.q 6 (.q 7 ((.l 8 [] (.done))))))))))) Kr ?_)
   refine qK rfl rfl rfl rfl (qX rfl rfl rfl rfl (qL (k:=7) rfl rfl rfl rfl υ'151 rfl ζ'144 rfl ?_))
   refine qP (j:=7) rfl rfl rfl rfl α'144 Tk Az (by rfl) ?_
   refine qL (k:=2) rfl rfl rfl rfl υ'36 rfl ζ'3 rfl ?_
   refine qP (j:=2) rfl rfl rfl rfl α'3 Tk Az (by rfl) ?_
   refine kN rfl rfl rfl rfl α'153 ζ'153 Tk 0 (us:=[_,_]) Az rfl rfl ?_
   refine kY (sz:=1) (k:=o.toNat) (enc:=enc2) (xs:=x.B) rfl rfl rfl rfl rfl υ'144 ζ'153 hop (by first | rfl | omega) Om Tk ?_
   intro ib102 io102 ha102 hl102 hc102
   refine kJ (j:=0) (k:=o.toNat) (q:=(((opF x o).1)+1,0)) (enc:=enc2) (off:=io102) rfl rfl rfl rfl ζ'153 (us:=[_,_]) rfl rfl rfl ha102 enc2_len hop Tk (by first | rfl | exact (Nat.add_zero _).symm | omega) (by first | decide | exact Nat.le_of_ble_eq_true rfl) (by rfl) ?_
   refine qV (qS (qW [] (e':=[]) rfl ?_))
   refine kK (qQ (qG (qC (.q 0 (.done)) Kr ?_)))
   refine qR rfl rfl rfl rfl (qS (qQ (qJ ?_)))
   rw [n9 k9,hpl,getD_some hpp,← hpl,show arrF (opF x o) pp=((opF x o).1+1,0) from if_pos hful]
   refine rk_fold (b:=b) (⟨x.th,x.va,x.vo,x.lk,x.pa,x.T.set t.toNat (2,o,(opF x o).1),x.O,x.B.set o.toNat ((opF x o).1+1,0),x.n+1⟩) (pa:=pa) (pc:=pc) (ta:=ta) (tc:=tc) (oa:=oa) (oc:=oc) (ba:=ba) (bc:=bc) Ts (by rfl) (by simp) (by rfl) (by simp) ?_
   refine cR rfl rfl (()) (by rw [show nxE x k t o=0 from if_pos hc]) (by trivial) ?_
   exact Tf
  refine qF (qQ (kX rfl (.q 0 (.q 1 (.q 2 (.q 3 (.q 4 (.q 5 (.q 6 (.q 7 ((.l 8 [] (.done))))))))))) Kr ?_))
  refine qK rfl rfl rfl rfl (qX rfl rfl rfl rfl (qL (k:=7) rfl rfl rfl rfl υ'151 rfl ζ'144 rfl ?_))
  refine qP (j:=7) rfl rfl rfl rfl α'144 Tk Az (by rfl) ?_
  refine qL (k:=2) rfl rfl rfl rfl υ'36 rfl ζ'3 rfl ?_
  refine qP (j:=2) rfl rfl rfl rfl α'3 Tk Az (by rfl) ?_
  refine kN rfl rfl rfl rfl α'153 ζ'153 Tk 0 (us:=[_,_]) Az rfl rfl ?_
  refine kY (sz:=1) (k:=o.toNat) (enc:=enc2) (xs:=x.B) rfl rfl rfl rfl rfl υ'144 ζ'153 hop (by first | rfl | omega) Om Tk ?_
  intro ib102 io102 ha102 hl102 hc102
  refine kJ (j:=0) (k:=o.toNat) (q:=((opF x o).1,((opF x o).2)+1)) (enc:=enc2) (off:=io102) rfl rfl rfl rfl ζ'153 (us:=[_,_]) rfl rfl rfl ha102 enc2_len hop Tk (by first | rfl | exact (Nat.add_zero _).symm | omega) (by first | decide | exact Nat.le_of_ble_eq_true rfl) (by rfl) ?_
  refine qV (qS (qW [] (e':=[]) rfl ?_))
  refine kK (qQ (qG (qC (.q 0 (.done)) Kr ?_)))
  refine qR rfl rfl rfl rfl (qS (qQ (qJ ?_)))
  rw [n9 k9,hpl,getD_some hpp,← hpl,show arrF (opF x o) pp=((opF x o).1,(opF x o).2+1) from if_neg hful]
  refine rk_fold (b:=b) (⟨x.th,x.va,x.vo,x.lk,x.pa,x.T.set t.toNat (2,o,(opF x o).1),x.O,x.B.set o.toNat ((opF x o).1,(opF x o).2+1),x.n+1⟩) (pa:=pa) (pc:=pc) (ta:=ta) (tc:=tc) (oa:=oa) (oc:=oc) (ba:=ba) (bc:=bc) Ts (by rfl) (by simp) (by rfl) (by simp) ?_
  refine cR rfl rfl (()) (by rw [show nxE x k t o=0 from if_pos hc]) (by trivial) ?_
  exact Tf
 refine qG (qC (.q 0 (.q 1 (.done))) Kr ?_)
 refine qN rfl rfl rfl rfl rfl (cS _ _ _ _) ?_
 refine qR rfl rfl rfl rfl (qS (qQ ?_))
 refine qB rfl (fun k10=>?_) (fun k10=>?_)
 ·
  refine kX rfl (.q 0 (.q 1 (.q 2 (.q 3 (.q 4 (.q 5 (.q 6 (.q 7 ((.l 8 [] (.done))))))))))) Kr ?_
  refine qK rfl rfl rfl rfl (qX rfl rfl rfl rfl (qL (k:=5) rfl rfl rfl rfl υ'151 rfl ζ'149 rfl ?_))
  refine qP (j:=5) rfl rfl rfl rfl α'149 Tk Az (by rfl) ?_
  refine qL (k:=1) rfl rfl rfl rfl υ'36 rfl ζ'3 rfl ?_
  refine qP (j:=1) rfl rfl rfl rfl α'3 Tk Az (by rfl) ?_
  refine cX rfl rfl rfl rfl (vs:=[_,_,_]) (kM υ'107 ω'107 (ps:=[(0,1),(1,1),(2,1)]) ⟨rfl,ζ'105,rfl,ζ'3,rfl,ζ'3,trivial⟩ rfl) ?_
  refine kY (sz:=2) (k:=t.toNat) (enc:=enc3) (xs:=x.T) rfl rfl rfl rfl rfl υ'149 ζ'107 t2 (by first | rfl | omega) Om Tk ?_
  intro ib112 io112 ha112 hl112 hc112
  refine kJ (j:=0) (k:=t.toNat) (q:=(1,0,0)) (enc:=enc3) (off:=io112) rfl rfl rfl rfl ζ'107 (us:=[_,_,_]) rfl rfl rfl ha112 enc3_len t2 Tk (by first | rfl | exact (Nat.add_zero _).symm | omega) (by first | decide | exact Nat.le_of_ble_eq_true rfl) (by rfl) ?_
  refine qV (qS (qW [] (e':=[]) rfl ?_))
  refine kK (qQ (qG (qC (.q 0 (.done)) Kr ?_)))
  refine qR rfl rfl rfl rfl (qS (qQ (qJ ?_)))
  rw [n10 k10]
  refine rk_fold (b:=b) (⟨x.th,x.va,x.vo,x.lk,x.pa,x.T.set t.toNat (1,0,0),x.O,x.B,x.n+1⟩) (pa:=pa) (pc:=pc) (ta:=ta) (tc:=tc) (oa:=oa) (oc:=oc) (ba:=ba) (bc:=bc) Ts (by rfl) (by simp) (by rfl) (by rfl) ?_
  refine cR rfl rfl (()) (by rw [show nxE x k t o=0 from if_pos hc]) (by trivial) ?_
  exact Tf
 refine qG (qC (.q 0 (.q 1 (.done))) Kr ?_)
 refine qN rfl rfl rfl rfl rfl (cS _ _ _ _) ?_
 refine qR rfl rfl rfl rfl (qS (qW [0,3,113] (e':=[(0,_),(3,_),(113,_)]) rfl ?_))
 refine qQ ?_
 refine qB rfl (fun k11=>?_) (fun k11=>?_)
 ·
  refine kX rfl (.q 0 (.q 1 (.q 2 (.q 3 (.q 4 (.q 5 (.q 6 (.q 7 ((.l 8 [] (.done))))))))))) Kr ?_
  refine qK rfl rfl rfl rfl (qX rfl rfl rfl rfl (qL (k:=5) rfl rfl rfl rfl υ'151 rfl ζ'149 rfl ?_))
  refine qP (j:=5) rfl rfl rfl rfl α'149 Tk Az (by rfl) ?_
  refine qL (k:=1) rfl rfl rfl rfl υ'36 rfl ζ'3 rfl ?_
  refine qP (j:=1) rfl rfl rfl rfl α'3 Tk Az (by rfl) ?_
  refine cX rfl rfl rfl rfl (vs:=[_,_,_]) (kM υ'107 ω'107 (ps:=[(0,1),(1,1),(2,1)]) ⟨rfl,ζ'105,rfl,ζ'3,rfl,ζ'3,trivial⟩ rfl) ?_
  refine kY (sz:=2) (k:=t.toNat) (enc:=enc3) (xs:=x.T) rfl rfl rfl rfl rfl υ'149 ζ'107 t2 (by first | rfl | omega) Om Tk ?_
  intro ib122 io122 ha122 hl122 hc122
  refine kJ (j:=0) (k:=t.toNat) (q:=(3,0,0)) (enc:=enc3) (off:=io122) rfl rfl rfl rfl ζ'107 (us:=[_,_,_]) rfl rfl rfl ha122 enc3_len t2 Tk (by first | rfl | exact (Nat.add_zero _).symm | omega) (by first | decide | exact Nat.le_of_ble_eq_true rfl) (by rfl) ?_
  refine qV (qS (qW [] (e':=[]) rfl ?_))
  refine kK (qQ (qG (qC (.q 0 (.done)) Kr ?_)))
  refine qR rfl rfl rfl rfl (qS (qQ (qJ ?_)))
  rw [n11 k11]
  refine rk_fold (b:=b) (⟨x.th,x.va,x.vo,x.lk,x.pa,x.T.set t.toNat (3,0,0),x.O,x.B,x.n+1⟩) (pa:=pa) (pc:=pc) (ta:=ta) (tc:=tc) (oa:=oa) (oc:=oc) (ba:=ba) (bc:=bc) Ts (by rfl) (by simp) (by rfl) (by rfl) ?_
  refine cR rfl rfl (()) (by rw [show nxE x k t o=0 from if_pos hc]) (by trivial) ?_
  exact Tf
 refine qF (kK (qQ (qG (qC (.q 0 (.done)) Kr ?_))))
 refine qR rfl rfl rfl rfl (qS (qQ (qJ ?_)))
 rw [nn k5 k6 k7 k9 k10 k11]
 refine rk_fold (b:=b) (⟨x.th,x.va,x.vo,x.lk,x.pa,x.T,x.O,x.B,x.n+1⟩) (pa:=pa) (pc:=pc) (ta:=ta) (tc:=tc) (oa:=oa) (oc:=oc) (ba:=ba) (bc:=bc) Ts (by rfl) (by rfl) (by rfl) (by rfl) ?_
 refine cR rfl rfl (()) (by rw [show nxE x k t o=0 from if_pos hc]) (by trivial) ?_
 exact Tf
theorem rlen_spec (pa:Option Addr) (pc b:Nat) (x:CS):Spec Try.prog 37 [.pointer (some ⟨b,0,none⟩)] [rk pa pc b x] (fun (_:Unit)=>.int .i64 x.n) (fun _=>True) (fun _=>[rk pa pc b x]):=by
 refine kP (n:=9) Try.func37 rfl rfl rfl ?_
 intro Γ w0
 simp only [argE,List.cons_append,List.nil_append,Nat.zero_add,Nat.reduceAdd]
 refine qG (qC (.q 0 (.done)) Kr ?_)
 refine qR rfl rfl rfl rfl (qS (qQ (qG (qG (qC (.q 0 (.q 1 (.done))) Kr ?_)))))
 refine qK rfl rfl rfl rfl (cY rfl rfl rfl rfl υ'91 ?_)
 refine kH 4 rfl (v':=.bool false) rfl ?_
 refine qS (qQ (kB rfl ?_))
 refine qF (qQ (qG (cK (A:=rk pa pc b x) Tk ?_)))
 refine rk_open fun ta tc oa oc ba bc=>?_
 refine qC (.q 0 (.q 1 (.q 2 (.q 3 (.q 4 (.done)))))) Kr ?_
 refine qK rfl rfl rfl rfl (qX rfl rfl rfl rfl (qL (k:=8) rfl rfl rfl rfl υ'151 rfl ζ'3 rfl ?_))
 refine qP (j:=8) rfl rfl rfl rfl α'3 Tk Az (by rfl) ?_
 refine qR rfl rfl rfl rfl (qS (qW [2] (e':=[(2,_)]) rfl ?_))
 refine qQ (qJ (rk_fold (b:=b) x (pa:=pa) (pc:=pc) (ta:=ta) (tc:=tc) (oa:=oa) (oc:=oc) (ba:=ba) (bc:=bc) Ts (by rfl) (by rfl) (by rfl) (by rfl) ?_))
 refine cR rfl rfl (()) (by first | rfl | (first | rfl | (congr 1;done) | (congr 1 <;> first | rfl | omega | (simp;done) | (simp;omega)))) (by trivial) ?_
 exact Tf
theorem rstand_spec (pa:Option Addr) (pc b:Nat) (x:CS) (hx:CInv x) (t:Int):Spec Try.prog 36 [.pointer (some ⟨b,0,none⟩),.int .i64 t] [rk pa pc b x] (fun (_:Unit)=>.tuple #[ev3 (stF x t),.int .i64 (if 0≤t∧t < x.th then 0 else 2)]) (fun _=>True) (fun _=>[rk pa pc b x]):=by
 refine kP (n:=25) Try.func36 rfl rfl rfl ?_
 intro Γ w0
 simp only [argE,List.cons_append,List.nil_append,Nat.zero_add,Nat.reduceAdd]
 have htl:=hx.tl
 have hol:=hx.ol
 have hbl:=hx.bl
 refine qG (qC ((.l 0 [] (.q 1 (.done)))) Kr ?_)
 refine cF rfl rfl rfl ω'107 (zs:=[.int .i64 0,.int .i64 0,.int .i64 0]) rfl ?_
 intro b4
 refine qV (qR rfl rfl rfl rfl (qS (qQ (qG (qG (qC (.q 0 (.q 1 (.done))) Kr ?_))))))
 refine qK rfl rfl rfl rfl (cY rfl rfl rfl rfl υ'91 ?_)
 refine kH 7 rfl (v':=.bool false) rfl ?_
 refine qS (qQ (kB rfl ?_))
 refine qF (qQ (qG (qG (cK (A:=rk pa pc b x) Tk ?_))))
 refine rk_open fun ta tc oa oc ba bc=>?_
 refine qC (.q 0 (.q 1 (.q 2 (.q 3 (.q 4 (.q 5 ((.l 6 [] (.q 7 (.done)))))))))) Kr ?_
 refine qK rfl rfl rfl rfl (qK rfl rfl rfl rfl (qX rfl rfl rfl rfl (qL (k:=5) rfl rfl rfl rfl υ'151 rfl ζ'149 rfl ?_)))
 refine qP (j:=5) rfl rfl rfl rfl α'149 Tk Az (by rfl) ?_
 refine cH rfl rfl rfl rfl υ'149 ?_
 have sp_1:=below_spec t ((x.T.length:Nat):Int)
 refine qM rfl rfl rfl rfl rfl rfl κ'76 (sp_1) Ts ?_
 rintro ⟨⟩ -
 try simp only [List.cons_append,List.nil_append]
 refine qV (rL rfl rfl rfl rfl ?_)
 refine qS (qW [0,1,4,16] (e':=[(0,_),(1,_),(4,_),(16,_)]) rfl ?_)
 refine qQ ?_
 refine c_cond_np rfl (fun hin=>?_) (fun hin=>?_)
 ·
  have hno:¬ (0≤t∧t < x.th):=fun h=>hin Om
  refine qG (qC (.q 0 ((.l 1 [] (.q 2 (.done))))) Kr ?_)
  refine cX rfl rfl rfl rfl (vs:=[_,_,_]) (kM υ'107 ω'107 (ps:=[(0,1),(1,1),(2,1)]) ⟨rfl,ζ'105,rfl,ζ'3,rfl,ζ'3,trivial⟩ rfl) ?_
  refine kR (j:=0) rfl rfl rfl rfl ζ'107 (us:=[_,_,_]) rfl rfl rfl Tk Az (by first | decide | (simp;done) | omega) ?_
  simp only [setL,List.set]
  refine qV (qR rfl rfl rfl rfl (qS (qW [4,5] (e':=[(4,_),(5,_)]) rfl ?_)))
  refine qQ (qJ (qD (rk_fold (b:=b) x (pa:=pa) (pc:=pc) (ta:=ta) (tc:=tc) (oa:=oa) (oc:=oc) (ba:=ba) (bc:=bc) Ts (by rfl) (by rfl) (by rfl) (by rfl) ?_)))
  refine retL (us:=[_,_]) rfl ⟨rv_cellN rfl α'107 ζ'107 Tk 0 rfl (us:=[_,_,_]) rfl rfl,rv_tmp rfl,trivial⟩ (()) (by rw [if_neg hno,stF_out Om];rfl) (by trivial) ?_
  exact Tf
 have hyes:0≤t∧t < x.th:=by omega
 have hel:=stF_at (x:=x) (t:=t) hin.1 hin.2
 refine qF (qQ (qG (qC (.q 0 (.q 1 (.q 2 (.q 3 (.q 4 (.q 5 (.q 6 ((.l 7 [] (.q 8 (.done))))))))))) Kr ?_)))
 refine qK rfl rfl rfl rfl (qX rfl rfl rfl rfl (qL (k:=5) rfl rfl rfl rfl υ'151 rfl ζ'149 rfl ?_))
 refine qP (j:=5) rfl rfl rfl rfl α'149 Tk Az (by rfl) ?_
 refine qK rfl rfl rfl rfl (kY (sz:=2) (k:=t.toNat) (enc:=enc3) (xs:=x.T) rfl rfl rfl rfl rfl υ'149 ζ'107 hel (by first | rfl | omega) Om Tk ?_)
 intro ib23 io23 ha23 hl23 hc23
 refine q_loadN_O (j:=0) (k':=t.toNat) (us:=[_,_,_]) (enc:=enc3) (off:=io23) rfl rfl rfl rfl α'107 ζ'107 ha23 enc3_len hel Tk (by first | rfl | exact (Nat.add_zero _).symm | omega) (by rfl) rfl ?_
 refine kR (j:=0) rfl rfl rfl rfl ζ'107 (us:=[_,_,_]) rfl rfl rfl Tk Az (by first | decide | (simp;done) | omega) ?_
 simp only [setL,List.set]
 refine qV (qR rfl rfl rfl rfl (qS (qW [4,5] (e':=[(4,_),(5,_)]) rfl ?_)))
 refine qQ (qJ (rk_fold (b:=b) x (pa:=pa) (pc:=pc) (ta:=ta) (tc:=tc) (oa:=oa) (oc:=oc) (ba:=ba) (bc:=bc) Ts (by rfl) (by rfl) (by rfl) (by rfl) ?_))
 refine retL (us:=[_,_]) rfl ⟨rv_cellN rfl α'107 ζ'107 Tk 0 rfl (us:=[_,_,_]) rfl rfl,rv_tmp rfl,trivial⟩ (()) (by rw [if_pos hyes];rfl) (by trivial) ?_
 exact Tf
theorem rcopy_spec (pa:Option Addr) (pc b:Nat) (x:CS) (hx:CInv x):Spec Try.prog 67 [.pointer (some ⟨b,0,none⟩)] [rk pa pc b x] (fun (r:Nat)=>.pointer (some ⟨r,0,none⟩)) (fun r=>True) (fun r=>[rk pa pc b x,rk pa pc r x]):=by
 refine kP (n:=95) Try.func67 rfl rfl rfl ?_
 intro Γ w0
 simp only [argE,List.cons_append,List.nil_append,Nat.zero_add,Nat.reduceAdd]
 have htl:=hx.tl
 have hol:=hx.ol
 have hbl:=hx.bl
 have h4:=hx.sh.pl
 have h5:=hx.sh.th
 have h6:=hx.sh.lk
 refine qG (qC (.q 0 (.done)) Kr ?_)
 refine qR rfl rfl rfl rfl (qS (qQ (qG (qG (qC (.q 0 (.q 1 (.done))) Kr ?_)))))
 refine qK rfl rfl rfl rfl (cY rfl rfl rfl rfl υ'91 ?_)
 refine kH 8 rfl (v':=.bool false) rfl ?_
 refine qS (qQ (kB rfl ?_))
 refine qF (qQ (qG (cK (A:=rk pa pc b x) Tk ?_)))
 refine rk_open fun ta tc oa oc ba bc=>?_
 refine kX rfl (.q 0 (.q 1 (.q 2 (.q 3 (.q 4 (.q 5 (.q 6 (.q 7 (.q 8 ((.l 9 [] (.q 10 (.done))))))))))))) Kr ?_
 refine qK rfl rfl rfl rfl (qX rfl rfl rfl rfl (qL (k:=0) rfl rfl rfl rfl υ'151 rfl ζ'25 rfl ?_))
 refine kN rfl rfl rfl rfl α'25 ζ'25 Tk 0 (us:=[_,_,_,_,_]) Az rfl rfl ?_
 refine qK rfl rfl rfl rfl (qX rfl rfl rfl rfl (qL (k:=8) rfl rfl rfl rfl υ'151 rfl ζ'3 rfl ?_))
 refine qP (j:=8) rfl rfl rfl rfl α'3 Tk Az (by rfl) ?_
 refine cX rfl rfl rfl rfl (vs:=[_,_,_,_,_,_,_,_,_]) (kM υ'151 Try.zeroValue151 (ps:=[(0,5),(5,1),(6,1),(7,1),(8,1)]) ⟨rfl,ζ'25,rfl,ζ'149,rfl,ζ'23,rfl,ζ'144,rfl,ζ'3,trivial⟩ rfl) ?_
 refine sX rfl rfl rfl rfl (us:=[_,_,_,_,_,_,_,_,_]) rfl ?_
 intro b18
 refine qV (qR rfl rfl rfl rfl (qS (qW [0,3] (e':=[(0,_),(3,_)]) rfl ?_)))
 refine qQ (qG (qG (qC (.q 0 (.done)) Kr ?_)))
 refine qR rfl rfl rfl rfl (qS (qQ (kS (kF (fun _ h=>cJ (sz:=3) (enc:=enc3) h) ?_))))
 refine cD (α:=Nat × Option Addr × Nat) (fun (x_:Nat × Option Addr × Nat)=>match x_ with | (i,ai,ci)=>i≤x.T.length∧True) (fun (x_:Nat × Option Addr × Nat)=>match x_ with | (i,ai,ci)=>[(4,.int .i64 ((i:Nat):Int))]) (fun (x_:Nat × Option Addr × Nat)=>match x_ with | (i,ai,ci)=>[cells b18 0 [.int .i64 x.th,.int .i64 x.va,.int .i64 x.vo,.int .i64 x.lk,.slice pa x.pa.length pc,.slice ai i ci,.slice none 0 0,.slice none 0 0,.int .i64 x.n],own 3 enc3 ai ci (x.T.take i)]) (fun (x_:Nat × Option Addr × Nat)=>match x_ with | (i,ai,ci)=>x.T.length - i) [0,3] (er:=[(0,_),(3,_)]) rfl (0,none,0) ?_ (by exact ⟨rfl,trivial⟩) (by (try dsimp only);(try simp only [Nat.add_zero,Nat.zero_add]);(repeat ((with_reducible apply Z2);focus (first | (with_reducible (repeat (first | exact Z0 | apply Z1));done) | (repeat (first | exact Z0 | apply Z1)))));exact Z3) ?_
 · exact ⟨Nat.zero_le _,trivial⟩
 rintro ⟨i,ai,ci⟩ ⟨hle_i,hz_i⟩
 try simp only [List.cons_append,List.nil_append]
 refine qG (qG (qC (.q 0 (.q 1 (.q 2 (.q 3 (.q 4 (.q 5 (.q 6 (.done)))))))) Kr ?_))
 refine qK rfl rfl rfl rfl (qK rfl rfl rfl rfl (qX rfl rfl rfl rfl (qL (k:=5) rfl rfl rfl rfl υ'151 rfl ζ'149 rfl ?_)))
 refine qP (j:=5) rfl rfl rfl rfl α'149 Tk Az (by rfl) ?_
 refine cH rfl rfl rfl rfl υ'149 ?_
 refine qN rfl rfl rfl rfl rfl (sK _ _ _ _) ?_
 refine qS (qW [0,3,4,25] (e':=[(0,_),(3,_),(4,_),(25,_)]) rfl ?_)
 refine qQ ?_
 refine qB rfl (fun hlt=>?_) (fun hlt=>?_)
 ·
  refine qF (qQ (qG (kS (kX rfl (.q 0 (.q 1 (.q 2 (.q 3 (.q 4 (.q 5 (.q 6 (.q 7 (.q 8 (.q 9 (.q 10 (.q 11 ((.l 12 [4] ((.l 13 [] (.q 14 (.q 15 ((.l 16 [] (.done))))))))))))))))))))) Kr ?_))))
  refine qK rfl rfl rfl rfl (qK rfl rfl rfl rfl (qX rfl rfl rfl rfl (qL (k:=5) rfl rfl rfl rfl υ'151 rfl ζ'149 rfl ?_)))
  refine qP (j:=5) rfl rfl rfl rfl α'149 Tk Az (by rfl) ?_
  refine qK rfl rfl rfl rfl (qX rfl rfl rfl rfl (qL (k:=5) rfl rfl rfl rfl υ'151 rfl ζ'149 rfl ?_))
  refine qP (j:=5) rfl rfl rfl rfl α'149 Tk Az (by rfl) ?_
  refine qK rfl rfl rfl rfl ?_
  obtain ⟨zi,hzi⟩:=cP (l:=x.T) (i:=i) (by first | omega | (simp;done) | (simp;omega))
  refine kY (sz:=2) (k:=i) (enc:=enc3) (xs:=x.T) rfl rfl rfl rfl rfl υ'149 ζ'107 hzi (by first | rfl | omega) Om Tk ?_
  intro ib38 io38 ha38 hl38 hc38
  refine q_loadN_O (j:=0) (k':=i) (us:=[_,_,_]) (enc:=enc3) (off:=io38) rfl rfl rfl rfl α'107 ζ'107 ha38 enc3_len hzi Tk (by first | rfl | exact (Nat.add_zero _).symm | omega) (by rfl) rfl ?_
  refine cG rfl rfl rfl rfl (cB (us:=[_,_,_]) υ'149 ζ'107 rfl ω'107 rfl rfl rfl) ?_
  intro b40
  refine qH (q:=5) rfl rfl rfl α'149 Tk Az (by rfl) ?_
  refine qV (sV (sz:=3) (enc:=enc3) (xs:=(x.T.take i)) rfl rfl rfl rfl rfl υ'149 Try.typeInfo107 rfl rfl rfl (by decide) Tk Tk (by first | rfl | omega | (simp;done) | (simp;omega)) (ys:=[zi]) (sW sC) (by rfl) (by first | rfl | omega) (enc3_len) (enc3_one) Om (by show _*24≤_;omega) ?_)
  intro ao41 cp41
  refine qV (qX rfl rfl rfl rfl (qL (k:=5) rfl rfl rfl rfl υ'151 rfl ζ'149 rfl ?_))
  refine kR (j:=5) rfl rfl rfl rfl ζ'149 (us:=[_]) rfl rfl rfl Tk Az (by first | decide | (simp;done) | omega) ?_
  simp only [setL,List.set]
  refine qV (qS (qW [0,3,4] (e':=[(0,_),(3,_),(4,_)]) rfl ?_))
  refine kK (qQ (qC (.q 0 (.q 1 (.q 2 (.done)))) Kr ?_))
  refine qK rfl rfl rfl rfl (qN rfl rfl rfl rfl rfl (cV _ (by exact kG Om Om)) ?_)
  refine qR rfl rfl rfl rfl (qS (qQ ?_))
  rw [← take_next hzi]
  refine cQ (x:=(i,ai,ci)) ((i+1,ao41,cp41)) ?_ ?_ ?_ ?_
  · try dsimp only
    exact ⟨by omega,trivial⟩
  · show x.T.length - (i+1) < x.T.length - i;omega
  · exact ⟨rfl,rfl,rfl,trivial⟩
  · (try simp only [List.cons_append,List.nil_append]);exact Tf
 refine cM (qZ (qZ (kV (qQ (qG (qG (qC (.q 0 (.done)) Kr ?_)))))))
 refine qR rfl rfl rfl rfl (qS (qQ (kS (kF (fun _ h=>cJ (sz:=1) (enc:=encZ) h) ?_))))
 refine cD (α:=Nat × Option Addr × Nat) (fun (x_:Nat × Option Addr × Nat)=>match x_ with | (j,aj,cj)=>j≤x.O.length∧True) (fun (x_:Nat × Option Addr × Nat)=>match x_ with | (j,aj,cj)=>[(5,.int .i64 ((j:Nat):Int))]) (fun (x_:Nat × Option Addr × Nat)=>match x_ with | (j,aj,cj)=>[cells b18 0 [.int .i64 x.th,.int .i64 x.va,.int .i64 x.vo,.int .i64 x.lk,.slice pa x.pa.length pc,.slice ai i ci,.slice aj j cj,.slice none 0 0,.int .i64 x.n],own 3 enc3 ai ci (x.T.take i),own 1 encZ aj cj (x.O.take j)]) (fun (x_:Nat × Option Addr × Nat)=>match x_ with | (j,aj,cj)=>x.O.length - j) [0,3] (er:=[(0,_),(3,_)]) rfl (0,none,0) ?_ (by exact ⟨rfl,trivial⟩) (by (try dsimp only);(try simp only [Nat.add_zero,Nat.zero_add]);(repeat ((with_reducible apply Z2);focus (first | (with_reducible (repeat (first | exact Z0 | apply Z1));done) | (repeat (first | exact Z0 | apply Z1)))));exact Z3) ?_
 · exact ⟨Nat.zero_le _,trivial⟩
 rintro ⟨j,aj,cj⟩ ⟨hle_j,hz_j⟩
 try simp only [List.cons_append,List.nil_append]
 refine qG (qG (qC (.q 0 (.q 1 (.q 2 (.q 3 (.q 4 (.q 5 (.q 6 (.done)))))))) Kr ?_))
 refine qK rfl rfl rfl rfl (qK rfl rfl rfl rfl (qX rfl rfl rfl rfl (qL (k:=6) rfl rfl rfl rfl υ'151 rfl ζ'23 rfl ?_)))
 refine qP (j:=6) rfl rfl rfl rfl α'23 Tk Az (by rfl) ?_
 refine cH rfl rfl rfl rfl υ'23 ?_
 refine qN rfl rfl rfl rfl rfl (sK _ _ _ _) ?_
 refine qS (qW [0,3,5,50] (e':=[(0,_),(3,_),(5,_),(50,_)]) rfl ?_)
 refine qQ ?_
 refine qB rfl (fun hlt=>?_) (fun hlt=>?_)
 ·
  refine qF (qQ (qG (kS (kX rfl (.q 0 (.q 1 (.q 2 (.q 3 (.q 4 (.q 5 (.q 6 (.q 7 (.q 8 (.q 9 (.q 10 (.q 11 ((.l 12 [4] ((.l 13 [] (.q 14 (.q 15 ((.l 16 [] (.done))))))))))))))))))))) Kr ?_))))
  refine qK rfl rfl rfl rfl (qK rfl rfl rfl rfl (qX rfl rfl rfl rfl (qL (k:=6) rfl rfl rfl rfl υ'151 rfl ζ'23 rfl ?_)))
  refine qP (j:=6) rfl rfl rfl rfl α'23 Tk Az (by rfl) ?_
  refine qK rfl rfl rfl rfl (qX rfl rfl rfl rfl (qL (k:=6) rfl rfl rfl rfl υ'151 rfl ζ'23 rfl ?_))
  refine qP (j:=6) rfl rfl rfl rfl α'23 Tk Az (by rfl) ?_
  refine qK rfl rfl rfl rfl ?_
  obtain ⟨zj,hzj⟩:=cP (l:=x.O) (i:=j) (by first | omega | (simp;done) | (simp;omega))
  refine kY (sz:=0) (k:=j) (enc:=encZ) (xs:=x.O) rfl rfl rfl rfl rfl υ'23 ζ'3 hzj (by first | rfl | omega) Om Tk ?_
  intro ib63 io63 ha63 hl63 hc63
  refine kQ (v:=(.int .i64 zj)) (j:=0) (k':=j) (enc:=encZ) (off:=io63) rfl rfl rfl rfl α'3 ha63 encZ_len hzj Tk (by first | rfl | exact (Nat.add_zero _).symm | omega) (by rfl) ?_
  refine cG rfl rfl rfl rfl (cB (us:=[_]) υ'23 ζ'3 rfl ω'3 rfl rfl rfl) ?_
  intro b65
  refine qH (q:=6) rfl rfl rfl α'23 Tk Az (by rfl) ?_
  refine qV (sV (sz:=1) (enc:=encZ) (xs:=(x.O.take j)) rfl rfl rfl rfl rfl υ'23 τ'3 rfl rfl rfl (by decide) Tk Tk (by first | rfl | omega | (simp;done) | (simp;omega)) (ys:=[zj]) (sW sC) (by rfl) (by first | rfl | omega) (encZ_len) (encZ_one) Om (by show _*8≤_;omega) ?_)
  intro ao66 cp66
  refine qV (qX rfl rfl rfl rfl (qL (k:=6) rfl rfl rfl rfl υ'151 rfl ζ'23 rfl ?_))
  refine kR (j:=6) rfl rfl rfl rfl ζ'23 (us:=[_]) rfl rfl rfl Tk Az (by first | decide | (simp;done) | omega) ?_
  simp only [setL,List.set]
  refine qV (qS (qW [0,3,5] (e':=[(0,_),(3,_),(5,_)]) rfl ?_))
  refine kK (qQ (qC (.q 0 (.q 1 (.q 2 (.done)))) Kr ?_))
  refine qK rfl rfl rfl rfl (qN rfl rfl rfl rfl rfl (cV _ (by exact kG Om Om)) ?_)
  refine qR rfl rfl rfl rfl (qS (qQ ?_))
  rw [← take_next hzj]
  refine cQ (x:=(j,aj,cj)) ((j+1,ao66,cp66)) ?_ ?_ ?_ ?_
  · try dsimp only
    exact ⟨by omega,trivial⟩
  · show x.O.length - (j+1) < x.O.length - j;omega
  · exact ⟨rfl,rfl,rfl,trivial⟩
  · (try simp only [List.cons_append,List.nil_append]);exact Tf
 refine cM (qZ (qZ (kV (qQ (qG (qG (qC (.q 0 (.done)) Kr ?_)))))))
 refine qR rfl rfl rfl rfl (qS (qQ (kS (kF (fun _ h=>cJ (sz:=2) (enc:=enc2) h) ?_))))
 refine cD (α:=Nat × Option Addr × Nat) (fun (x_:Nat × Option Addr × Nat)=>match x_ with | (m,am,cm)=>m≤x.B.length∧True) (fun (x_:Nat × Option Addr × Nat)=>match x_ with | (m,am,cm)=>[(6,.int .i64 ((m:Nat):Int))]) (fun (x_:Nat × Option Addr × Nat)=>match x_ with | (m,am,cm)=>[cells b18 0 [.int .i64 x.th,.int .i64 x.va,.int .i64 x.vo,.int .i64 x.lk,.slice pa x.pa.length pc,.slice ai i ci,.slice aj j cj,.slice am m cm,.int .i64 x.n],own 3 enc3 ai ci (x.T.take i),own 1 encZ aj cj (x.O.take j),own 2 enc2 am cm (x.B.take m)]) (fun (x_:Nat × Option Addr × Nat)=>match x_ with | (m,am,cm)=>x.B.length - m) [0,3] (er:=[(0,_),(3,_)]) rfl (0,none,0) ?_ (by exact ⟨rfl,trivial⟩) (by (try dsimp only);(try simp only [Nat.add_zero,Nat.zero_add]);(repeat ((with_reducible apply Z2);focus (first | (with_reducible (repeat (first | exact Z0 | apply Z1));done) | (repeat (first | exact Z0 | apply Z1)))));exact Z3) ?_
 · exact ⟨Nat.zero_le _,trivial⟩
 rintro ⟨m,am,cm⟩ ⟨hle_m,hz_m⟩
 try simp only [List.cons_append,List.nil_append]
 refine qG (qG (qC (.q 0 (.q 1 (.q 2 (.q 3 (.q 4 (.q 5 (.q 6 (.done)))))))) Kr ?_))
 refine qK rfl rfl rfl rfl (qK rfl rfl rfl rfl (qX rfl rfl rfl rfl (qL (k:=7) rfl rfl rfl rfl υ'151 rfl ζ'144 rfl ?_)))
 refine qP (j:=7) rfl rfl rfl rfl α'144 Tk Az (by rfl) ?_
 refine cH rfl rfl rfl rfl υ'144 ?_
 refine qN rfl rfl rfl rfl rfl (sK _ _ _ _) ?_
 refine qS (qW [0,3,6,75] (e':=[(0,_),(3,_),(6,_),(75,_)]) rfl ?_)
 refine qQ ?_
 refine qB rfl (fun hlt=>?_) (fun hlt=>?_)
 ·
  refine qF (qQ (qG (kS (kX rfl (.q 0 (.q 1 (.q 2 (.q 3 (.q 4 (.q 5 (.q 6 (.q 7 (.q 8 (.q 9 (.q 10 (.q 11 ((.l 12 [4] ((.l 13 [] (.q 14 (.q 15 ((.l 16 [] (.done))))))))))))))))))))) Kr ?_))))
  refine qK rfl rfl rfl rfl (qK rfl rfl rfl rfl (qX rfl rfl rfl rfl (qL (k:=7) rfl rfl rfl rfl υ'151 rfl ζ'144 rfl ?_)))
  refine qP (j:=7) rfl rfl rfl rfl α'144 Tk Az (by rfl) ?_
  refine qK rfl rfl rfl rfl (qX rfl rfl rfl rfl (qL (k:=7) rfl rfl rfl rfl υ'151 rfl ζ'144 rfl ?_))
  refine qP (j:=7) rfl rfl rfl rfl α'144 Tk Az (by rfl) ?_
  refine qK rfl rfl rfl rfl ?_
  obtain ⟨zm,hzm⟩:=cP (l:=x.B) (i:=m) (by first | omega | (simp;done) | (simp;omega))
  refine kY (sz:=1) (k:=m) (enc:=enc2) (xs:=x.B) rfl rfl rfl rfl rfl υ'144 ζ'153 hzm (by first | rfl | omega) Om Tk ?_
  intro ib88 io88 ha88 hl88 hc88
  refine q_loadN_O (j:=0) (k':=m) (us:=[_,_]) (enc:=enc2) (off:=io88) rfl rfl rfl rfl α'153 ζ'153 ha88 enc2_len hzm Tk (by first | rfl | exact (Nat.add_zero _).symm | omega) (by rfl) rfl ?_
  refine cG rfl rfl rfl rfl (cB (us:=[_,_]) υ'144 ζ'153 rfl ω'153 rfl rfl rfl) ?_
  intro b90
  refine qH (q:=7) rfl rfl rfl α'144 Tk Az (by rfl) ?_
  refine qV (sV (sz:=2) (enc:=enc2) (xs:=(x.B.take m)) rfl rfl rfl rfl rfl υ'144 τ'153 rfl rfl rfl (by decide) Tk Tk (by first | rfl | omega | (simp;done) | (simp;omega)) (ys:=[zm]) (sW sC) (by rfl) (by first | rfl | omega) (enc2_len) (enc2_one) Om (by show _*16≤_;omega) ?_)
  intro ao91 cp91
  refine qV (qX rfl rfl rfl rfl (qL (k:=7) rfl rfl rfl rfl υ'151 rfl ζ'144 rfl ?_))
  refine kR (j:=7) rfl rfl rfl rfl ζ'144 (us:=[_]) rfl rfl rfl Tk Az (by first | decide | (simp;done) | omega) ?_
  simp only [setL,List.set]
  refine qV (qS (qW [0,3,6] (e':=[(0,_),(3,_),(6,_)]) rfl ?_))
  refine kK (qQ (qC (.q 0 (.q 1 (.q 2 (.done)))) Kr ?_))
  refine qK rfl rfl rfl rfl (qN rfl rfl rfl rfl rfl (cV _ (by exact kG Om Om)) ?_)
  refine qR rfl rfl rfl rfl (qS (qQ ?_))
  rw [← take_next hzm]
  refine cQ (x:=(m,am,cm)) ((m+1,ao91,cp91)) ?_ ?_ ?_ ?_
  · try dsimp only
    exact ⟨by omega,trivial⟩
  · show x.B.length - (m+1) < x.B.length - m;omega
  · exact ⟨rfl,rfl,rfl,trivial⟩
  · (try simp only [List.cons_append,List.nil_append]);exact Tf
 refine cM (qZ (qZ (kV (qQ (qG (qC (.q 0 (.q 1 (.done))) Kr ?_))))))
 refine qK rfl rfl rfl rfl (qR rfl rfl rfl rfl (qS (qW [2] (e':=[(2,_)]) rfl ?_)))
 refine qQ (qJ ?_)
 obtain rfl:i=x.T.length:=by omega
 obtain rfl:j=x.O.length:=by omega
 obtain rfl:m=x.B.length:=by omega
 rw [List.take_length,List.take_length,List.take_length]
 refine rk_fold (b:=b) x (pa:=pa) (pc:=pc) (ta:=ta) (tc:=tc) (oa:=oa) (oc:=oc) (ba:=ba) (bc:=bc) Ts (by rfl) (by rfl) (by rfl) (by rfl) ?_
 refine rk_fold (b:=b18) x (pa:=pa) (pc:=pc) (ta:=ai) (tc:=ci) (oa:=aj) (oc:=cj) (ba:=am) (bc:=cm) Ts (by rfl) (by rfl) (by rfl) (by rfl) ?_
 refine cR rfl rfl (b18) (by first | rfl | (first | rfl | (congr 1;done) | (congr 1 <;> first | rfl | omega | (simp;done) | (simp;omega)))) (by trivial) ?_
 exact Tf
end Go.Ab.Fe
set_option linter.unusedVariables false
set_option linter.unusedSimpArgs false
set_option maxRecDepth 100000
namespace Go.Ab.Fe
open Go Go.Proofs Go.Ab
abbrev nxT (x:CS) (e:T3):CS:=nxF x e.1 e.2.1 e.2.2
abbrev canT (x:CS) (e:T3):Prop:=canF x e.1 e.2.1 e.2.2
/-- Behind the first i events, those that cannot be next left out. -/
def sN (x:CS) (es:List T3) (i:Nat):CS:=(es.take i).foldl nxT x
theorem nxF_pa (x:CS) (k t o:Int):(nxF x k t o).pa=x.pa∧(nxF x k t o).th=x.th∧(nxF x k t o).va=x.va∧(nxF x k t o).vo=x.vo∧(nxF x k t o).lk=x.lk:=by
  unfold nxF nextF;split
  · repeat' split
    all_goals exact ⟨rfl,rfl,rfl,rfl,rfl⟩
  · exact ⟨rfl,rfl,rfl,rfl,rfl⟩
/-- All of the first i events can be. -/
def allC (x:CS) (es:List T3) (i:Nat):Prop:=∀ (j:Nat) (e:T3),j < i→es[j]?=some e→canT (sN x es j) e
def leastN:CS→List T3→Nat
  | _,[]=>0
  | x,e::es=>if canT x e then leastN (nxT x e) es+1 else 0
def lsR (th va vo lk:Int) (pl:List Int) (es:List T3):Int:=if OkS th va vo lk pl then ((leastN (newF th va vo lk pl) es:Nat):Int) else 0
theorem rnew_spec (th va vo lk:Int) (pl:List Int) (ao:Option Addr) (n c:Nat) (A:HProp) (hr:RdS A ao (pl.flatMap encZ)) (hn:pl.length=n) (hb:n≤4000000) (hok:OkS th va vo lk pl):Spec Try.prog 31 [.agg #[.int .i64 th,.int .i64 va,.int .i64 vo,.int .i64 lk,.slice ao n c]] [A] (fun (r:Nat × Option Addr × Nat)=>.tuple #[.pointer (some ⟨r.1,0,none⟩),.int .i64 0]) (fun r=>True) (fun r=>[A,own 1 encZ r.2.1 r.2.2 pl,rk r.2.1 r.2.2 r.1 (newF th va vo lk pl)]):=by
 refine kP (n:=92) Try.func31 rfl rfl rfl ?_
 intro Γ w0
 simp only [argE,List.cons_append,List.nil_append,Nat.zero_add,Nat.reduceAdd]
 have h1_:=hok.th
 have h2_:=hok.lk
 have h3_:=hok.pl
 refine qG (qC ((.l 0 [] (.q 1 (.q 2 (.done))))) Kr ?_)
 refine sX rfl rfl rfl rfl (us:=[_,_,_,_,_]) rfl ?_
 intro b1
 refine qV (qR rfl rfl rfl rfl (qR rfl rfl rfl rfl (qS (qQ (qG (qC (.q 0 ((.l 1 [] (.q 2 (.done))))) Kr ?_))))))
 refine kN rfl rfl rfl rfl α'25 ζ'25 Tk 0 (us:=[_,_,_,_,_]) Az rfl rfl ?_
 have sp_1:=rshape_spec th va vo lk pl ao n c A (hr) Ln Om
 refine qM rfl rfl rfl rfl rfl rfl Try.call75 (sp_1) Ts ?_
 rintro ⟨⟩ -
 try simp only [List.cons_append,List.nil_append]
 refine qV (kH 10 rfl (v':=.int .i64 0) (by rw [if_pos hok]) ?_)
 refine qR rfl rfl rfl rfl (qS (qW [1,4] (e':=[(1,_),(4,_)]) rfl ?_))
 refine qQ (qG (qG (qC (.q 0 (.q 1 (.done))) Kr ?_)))
 refine qK rfl rfl rfl rfl (qN rfl rfl rfl rfl rfl (b_neq _ _ _ _) ?_)
 refine kH 12 rfl (v':=.bool false) (by first | rfl | simp) ?_
 refine qS (qQ (kB rfl ?_))
 refine qF (qQ (qG (qC (.q 0 (.q 1 ((.l 2 [] (.q 3 (.done)))))) Kr ?_)))
 refine kN rfl rfl rfl rfl α'25 ζ'25 Tk 0 (us:=[_,_,_,_,_]) Az rfl rfl ?_
 refine cX rfl rfl rfl rfl (vs:=[_,_,_,_,_,_,_,_,_]) (kM υ'151 Try.zeroValue151 (ps:=[(0,5),(5,1),(6,1),(7,1),(8,1)]) ⟨rfl,ζ'25,rfl,ζ'149,rfl,ζ'23,rfl,ζ'144,rfl,ζ'3,trivial⟩ rfl) ?_
 refine sX rfl rfl rfl rfl (us:=[_,_,_,_,_,_,_,_,_]) rfl ?_
 intro b16
 refine qV (qR rfl rfl rfl rfl (qS (qW [1,5] (e':=[(1,_),(5,_)]) rfl ?_)))
 refine qQ (qG (qC (.q 0 (.q 1 (.q 2 (.q 3 ((.l 4 [] (.done))))))) Kr ?_))
 refine qK rfl rfl rfl rfl (qX rfl rfl rfl rfl (qL (k:=0) rfl rfl rfl rfl υ'151 rfl ζ'25 rfl ?_))
 refine qL (k:=4) rfl rfl rfl rfl υ'25 rfl ζ'23 rfl ?_
 refine kR (j:=4) rfl rfl rfl rfl ζ'23 (us:=[_]) rfl rfl rfl Tk Az (by first | decide | (simp;done) | omega) ?_
 simp only [setL,List.set]
 refine qV (qS (qW [1,5] (e':=[(1,_),(5,_)]) rfl ?_))
 refine qQ (qG (qG (qC (.q 0 (.done)) Kr ?_)))
 refine qR rfl rfl rfl rfl (qS (qQ (kS (kF (fun _ h=>cJ (sz:=1) (enc:=encZ) h) ?_))))
 refine kF (fun _ h=>cJ (sz:=2) (enc:=enc2) h) ?_
 refine cD (α:=Nat × Option Addr × Nat × Option Addr × Nat) (fun (x_:Nat × Option Addr × Nat × Option Addr × Nat)=>match x_ with | (i,ai,ci,bi,di)=>i≤n∧True) (fun (x_:Nat × Option Addr × Nat × Option Addr × Nat)=>match x_ with | (i,ai,ci,bi,di)=>[(6,.int .i64 ((i:Nat):Int))]) (fun (x_:Nat × Option Addr × Nat × Option Addr × Nat)=>match x_ with | (i,ai,ci,bi,di)=>[cells b16 0 [.int .i64 th,.int .i64 va,.int .i64 vo,.int .i64 lk,.slice ai i ci,.slice none 0 0,.slice none 0 0,.slice bi i di,.int .i64 0],own 1 encZ ai ci (pl.take i),own 2 enc2 bi di (List.replicate i ((0:Int),(0:Int)))]) (fun (x_:Nat × Option Addr × Nat × Option Addr × Nat)=>match x_ with | (i,ai,ci,bi,di)=>n - i) [1,5] (er:=[(1,_),(5,_)]) rfl (0,none,0,none,0) ?_ (by exact ⟨rfl,trivial⟩) (by (try dsimp only);(try simp only [Nat.add_zero,Nat.zero_add]);(repeat ((with_reducible apply Z2);focus (first | (with_reducible (repeat (first | exact Z0 | apply Z1));done) | (repeat (first | exact Z0 | apply Z1)))));exact Z3) ?_
 · exact ⟨Nat.zero_le _,trivial⟩
 rintro ⟨i,ai,ci,bi,di⟩ ⟨hle_i,hz1⟩
 try simp only [List.cons_append,List.nil_append]
 refine qG (qG (qC (.q 0 (.q 1 (.q 2 (.q 3 (.q 4 (.done)))))) Kr ?_))
 refine qK rfl rfl rfl rfl (qL (k:=4) rfl rfl rfl rfl υ'25 rfl ζ'23 rfl ?_)
 refine qP (j:=4) rfl rfl rfl rfl α'23 Tk Az (by rfl) ?_
 refine cH rfl rfl rfl rfl υ'23 ?_
 refine qN rfl rfl rfl rfl rfl (sK _ _ _ _) ?_
 refine qS (qW [1,5,6,25] (e':=[(1,_),(5,_),(6,_),(25,_)]) rfl ?_)
 refine qQ ?_
 refine qB rfl (fun hlt1=>?_) (fun hlt1=>?_)
 ·
  refine qF (qQ (qG (kS (qG (kX rfl (.q 0 (.q 1 (.q 2 (.q 3 (.q 4 (.q 5 (.q 6 (.q 7 (.q 8 (.q 9 (.q 10 ((.l 11 [5] ((.l 12 [] (.q 13 (.q 14 (.q 15 ((.l 16 [] (.done))))))))))))))))))))) Kr ?_)))))
  refine qK rfl rfl rfl rfl (qK rfl rfl rfl rfl (qX rfl rfl rfl rfl (qL (k:=0) rfl rfl rfl rfl υ'151 rfl ζ'25 rfl ?_)))
  refine qL (k:=4) rfl rfl rfl rfl υ'25 rfl ζ'23 rfl ?_
  refine qP (j:=4) rfl rfl rfl rfl α'23 Tk Az (by rfl) ?_
  refine qL (k:=4) rfl rfl rfl rfl υ'25 rfl ζ'23 rfl ?_
  refine qP (j:=4) rfl rfl rfl rfl α'23 Tk Az (by rfl) ?_
  refine qK rfl rfl rfl rfl ?_
  obtain ⟨p,hp⟩:=cP (l:=pl) (i:=i) (by first | omega | (simp;done) | (simp;omega))
  refine rC (sz:=0) (k:=i) rfl rfl rfl rfl rfl υ'23 ζ'3 (hr) hp encZ_len (by first | rfl | omega) Om ?_
  intro ib37 io37 _ hd37
  refine q_load rfl rfl rfl rfl α'3 Tk (hd37 0 (.int .i64 p) rfl) ?_
  refine cG rfl rfl rfl rfl (cB (us:=[_]) υ'23 ζ'3 rfl ω'3 rfl rfl rfl) ?_
  intro b39
  refine qH (q:=4) rfl rfl rfl α'23 Tk Az (by rfl) ?_
  refine qV (sV (sz:=1) (enc:=encZ) (xs:=(pl.take i)) rfl rfl rfl rfl rfl υ'23 τ'3 rfl rfl rfl (by decide) Tk Tk (by first | rfl | omega | (simp;done) | (simp;omega)) (ys:=[p]) (sW sC) (by rfl) (by first | rfl | omega) (encZ_len) (encZ_one) Om (by show _*8≤_;omega) ?_)
  intro ao40 cp40
  refine qV (qX rfl rfl rfl rfl (qL (k:=0) rfl rfl rfl rfl υ'151 rfl ζ'25 rfl ?_))
  refine qL (k:=4) rfl rfl rfl rfl υ'25 rfl ζ'23 rfl ?_
  refine kR (j:=4) rfl rfl rfl rfl ζ'23 (us:=[_]) rfl rfl rfl Tk Az (by first | decide | (simp;done) | omega) ?_
  simp only [setL,List.set]
  refine qV (qS (qW [1,5,6] (e':=[(1,_),(5,_),(6,_)]) rfl ?_))
  refine qQ (qC (.q 0 (.q 1 (.q 2 (.q 3 (.q 4 (.q 5 ((.l 6 [] ((.l 7 [] (.q 8 (.q 9 ((.l 10 [] (.done))))))))))))))) Kr ?_)
  refine qK rfl rfl rfl rfl (qK rfl rfl rfl rfl (qX rfl rfl rfl rfl (qL (k:=7) rfl rfl rfl rfl υ'151 rfl ζ'144 rfl ?_)))
  refine qP (j:=7) rfl rfl rfl rfl α'144 Tk Az (by rfl) ?_
  refine cX rfl rfl rfl rfl (vs:=[_,_]) (kM υ'153 ω'153 (ps:=[(0,1),(1,1)]) ⟨rfl,ζ'3,rfl,ζ'3,trivial⟩ rfl) ?_
  refine cG rfl rfl rfl rfl (cB (us:=[_,_]) υ'144 ζ'153 rfl ω'153 rfl rfl rfl) ?_
  intro b50
  refine qV (sV (sz:=2) (enc:=enc2) (xs:=(List.replicate i ((0:Int),(0:Int)))) rfl rfl rfl rfl rfl υ'144 τ'153 rfl rfl rfl (by decide) Tk Tk (by first | rfl | omega | (simp;done) | (simp;omega)) (ys:=[(0,0)]) (sW sC) (by rfl) (by first | rfl | omega) (enc2_len) (enc2_one) Om (by show _*16≤_;omega) ?_)
  intro ao51 cp51
  refine qV (qX rfl rfl rfl rfl (qL (k:=7) rfl rfl rfl rfl υ'151 rfl ζ'144 rfl ?_))
  refine kR (j:=7) rfl rfl rfl rfl ζ'144 (us:=[_]) rfl rfl rfl Tk Az (by first | decide | (simp;done) | omega) ?_
  simp only [setL,List.set]
  refine qV (qS (qW [1,5,6] (e':=[(1,_),(5,_),(6,_)]) rfl ?_))
  refine kK (qQ (qC (.q 0 (.q 1 (.q 2 (.done)))) Kr ?_))
  refine qK rfl rfl rfl rfl (qN rfl rfl rfl rfl rfl (cV _ (by exact kG Om Om)) ?_)
  refine qR rfl rfl rfl rfl (qS (qQ ?_))
  rw [← take_next hp,← List.replicate_succ']
  refine cQ (x:=(i,ai,ci,bi,di)) ((i+1,ao40,cp40,ao51,cp51)) ?_ ?_ ?_ ?_
  · try dsimp only
    exact ⟨by omega,trivial⟩
  · show n - (i+1) < n - i;omega
  · exact ⟨rfl,rfl,rfl,trivial⟩
  · (try simp only [List.cons_append,List.nil_append]);exact Tf
 refine cM (qZ (qZ (kV (qQ (qG (qG (qC (.q 0 (.done)) Kr ?_)))))))
 refine qR rfl rfl rfl rfl (qS (qQ (kS (kF (fun _ h=>cJ (sz:=3) (enc:=enc3) h) ?_))))
 refine cD (α:=Nat × Option Addr × Nat) (fun (x_:Nat × Option Addr × Nat)=>match x_ with | (j,aj,cj)=>j≤th.toNat∧True) (fun (x_:Nat × Option Addr × Nat)=>match x_ with | (j,aj,cj)=>[(7,.int .i64 ((j:Nat):Int))]) (fun (x_:Nat × Option Addr × Nat)=>match x_ with | (j,aj,cj)=>[cells b16 0 [.int .i64 th,.int .i64 va,.int .i64 vo,.int .i64 lk,.slice ai i ci,.slice aj j cj,.slice none 0 0,.slice bi i di,.int .i64 0],own 1 encZ ai ci (pl.take i),own 3 enc3 aj cj (List.replicate j ((0:Int),(0:Int),(0:Int))),own 2 enc2 bi di (List.replicate i ((0:Int),(0:Int)))]) (fun (x_:Nat × Option Addr × Nat)=>match x_ with | (j,aj,cj)=>th.toNat - j) [1,5] (er:=[(1,_),(5,_)]) rfl (0,none,0) ?_ (by exact ⟨rfl,trivial⟩) (by (try dsimp only);(try simp only [Nat.add_zero,Nat.zero_add]);(repeat ((with_reducible apply Z2);focus (first | (with_reducible (repeat (first | exact Z0 | apply Z1));done) | (repeat (first | exact Z0 | apply Z1)))));exact Z3) ?_
 · exact ⟨Nat.zero_le _,trivial⟩
 rintro ⟨j,aj,cj⟩ ⟨hle_j,hz2⟩
 try simp only [List.cons_append,List.nil_append]
 refine qG (qG (qC (.q 0 (.q 1 (.q 2 (.q 3 (.done))))) Kr ?_))
 refine qK rfl rfl rfl rfl (qL (k:=0) rfl rfl rfl rfl υ'25 rfl ζ'3 rfl ?_)
 refine qP (j:=0) rfl rfl rfl rfl α'3 Tk Az (by rfl) ?_
 refine qN rfl rfl rfl rfl rfl (sK _ _ _ _) ?_
 refine qS (qQ ?_)
 refine qB rfl (fun hlt2=>?_) (fun hlt2=>?_)
 ·
  refine qF (qQ (qG (kS (qC (.q 0 (.q 1 (.q 2 (.q 3 (.q 4 (.q 5 ((.l 6 [] ((.l 7 [] (.q 8 (.q 9 ((.l 10 [] (.done))))))))))))))) Kr ?_))))
  refine qK rfl rfl rfl rfl (qK rfl rfl rfl rfl (qX rfl rfl rfl rfl (qL (k:=5) rfl rfl rfl rfl υ'151 rfl ζ'149 rfl ?_)))
  refine qP (j:=5) rfl rfl rfl rfl α'149 Tk Az (by rfl) ?_
  refine cX rfl rfl rfl rfl (vs:=[_,_,_]) (kM υ'107 ω'107 (ps:=[(0,1),(1,1),(2,1)]) ⟨rfl,ζ'105,rfl,ζ'3,rfl,ζ'3,trivial⟩ rfl) ?_
  refine cG rfl rfl rfl rfl (cB (us:=[_,_,_]) υ'149 ζ'107 rfl ω'107 rfl rfl rfl) ?_
  intro b66
  refine qV (sV (sz:=3) (enc:=enc3) (xs:=(List.replicate j ((0:Int),(0:Int),(0:Int)))) rfl rfl rfl rfl rfl υ'149 Try.typeInfo107 rfl rfl rfl (by decide) Tk Tk (by first | rfl | omega | (simp;done) | (simp;omega)) (ys:=[(0,0,0)]) (sW sC) (by rfl) (by first | rfl | omega) (enc3_len) (enc3_one) Om (by show _*24≤_;omega) ?_)
  intro ao67 cp67
  refine qV (qX rfl rfl rfl rfl (qL (k:=5) rfl rfl rfl rfl υ'151 rfl ζ'149 rfl ?_))
  refine kR (j:=5) rfl rfl rfl rfl ζ'149 (us:=[_]) rfl rfl rfl Tk Az (by first | decide | (simp;done) | omega) ?_
  simp only [setL,List.set]
  refine qV (qS (qW [1,5,7] (e':=[(1,_),(5,_),(7,_)]) rfl ?_))
  refine kK (qQ (qC (.q 0 (.q 1 (.q 2 (.done)))) Kr ?_))
  refine qK rfl rfl rfl rfl (qN rfl rfl rfl rfl rfl (cV _ (by exact kG Om Om)) ?_)
  refine qR rfl rfl rfl rfl (qS (qQ ?_))
  rw [← List.replicate_succ']
  refine cQ (x:=(j,aj,cj)) ((j+1,ao67,cp67)) ?_ ?_ ?_ ?_
  · try dsimp only
    exact ⟨by omega,trivial⟩
  · show th.toNat - (j+1) < th.toNat - j;omega
  · exact ⟨rfl,rfl,rfl,trivial⟩
  · (try simp only [List.cons_append,List.nil_append]);exact Tf
 refine cM (qZ (qZ (kV (qQ (qG ?_)))))
 have hj0:j=th.toNat:=by omega
 obtain ⟨z0,hz0⟩:=cP (l:=List.replicate j ((0:Int),(0:Int),(0:Int))) (i:=0) (by simp;omega)
 obtain rfl:z0=(0,0,0):=(List.mem_replicate.1 (List.mem_of_getElem? hz0)).2
 refine qC (.q 0 (.q 1 (.q 2 (.q 3 (.q 4 (.q 5 ((.l 6 [] (.done))))))))) Kr ?_
 refine qK rfl rfl rfl rfl (qX rfl rfl rfl rfl (qL (k:=5) rfl rfl rfl rfl υ'151 rfl ζ'149 rfl ?_))
 refine qP (j:=5) rfl rfl rfl rfl α'149 Tk Az (by rfl) ?_
 refine kY (sz:=2) (k:=0) (enc:=enc3) (xs:=(List.replicate j ((0:Int),(0:Int),(0:Int)))) rfl rfl rfl rfl rfl υ'149 ζ'107 hz0 (by first | rfl | omega) Om Tk ?_
 intro ib74 io74 ha74 hl74 hc74
 refine qL (k:=0) rfl rfl rfl rfl υ'107 rfl ζ'105 rfl ?_
 refine kJ (j:=0) (k:=0) (q:=(1,0,0)) (enc:=enc3) (off:=io74) rfl rfl rfl rfl ζ'105 (us:=[_]) rfl rfl rfl ha74 enc3_len hz0 Tk (by first | rfl | exact (Nat.add_zero _).symm | omega) (by first | decide | exact Nat.le_of_ble_eq_true rfl) (by rfl) ?_
 refine qV (qS (qW [1,5] (e':=[(1,_),(5,_)]) rfl ?_))
 refine qQ (qG (qG (qC (.q 0 (.done)) Kr ?_)))
 refine qR rfl rfl rfl rfl (qS (qQ (kS (kF (fun _ h=>cJ (sz:=1) (enc:=encZ) h) ?_))))
 refine cD (α:=Nat × Option Addr × Nat) (fun (x_:Nat × Option Addr × Nat)=>match x_ with | (m,am,cm)=>m≤lk.toNat∧True) (fun (x_:Nat × Option Addr × Nat)=>match x_ with | (m,am,cm)=>[(8,.int .i64 ((m:Nat):Int))]) (fun (x_:Nat × Option Addr × Nat)=>match x_ with | (m,am,cm)=>[cells b16 0 [.int .i64 th,.int .i64 va,.int .i64 vo,.int .i64 lk,.slice ai i ci,.slice aj j cj,.slice am m cm,.slice bi i di,.int .i64 0],own 1 encZ ai ci (pl.take i),own 3 enc3 aj cj ((List.replicate j ((0:Int),(0:Int),(0:Int))).set 0 (1,0,0)),own 1 encZ am cm (List.replicate m (-1:Int)),own 2 enc2 bi di (List.replicate i ((0:Int),(0:Int)))]) (fun (x_:Nat × Option Addr × Nat)=>match x_ with | (m,am,cm)=>lk.toNat - m) [1,5] (er:=[(1,_),(5,_)]) rfl (0,none,0) ?_ (by exact ⟨rfl,trivial⟩) (by (try dsimp only);(try simp only [Nat.add_zero,Nat.zero_add]);(repeat ((with_reducible apply Z2);focus (first | (with_reducible (repeat (first | exact Z0 | apply Z1));done) | (repeat (first | exact Z0 | apply Z1)))));exact Z3) ?_
 · exact ⟨Nat.zero_le _,trivial⟩
 rintro ⟨m,am,cm⟩ ⟨hle_m,hz3⟩
 try simp only [List.cons_append,List.nil_append]
 refine qG (qG (qC (.q 0 (.q 1 (.q 2 (.q 3 (.done))))) Kr ?_))
 refine qK rfl rfl rfl rfl (qL (k:=3) rfl rfl rfl rfl υ'25 rfl ζ'3 rfl ?_)
 refine qP (j:=3) rfl rfl rfl rfl α'3 Tk Az (by rfl) ?_
 refine qN rfl rfl rfl rfl rfl (sK _ _ _ _) ?_
 refine qS (qQ ?_)
 refine qB rfl (fun hlt3=>?_) (fun hlt3=>?_)
 ·
  refine qF (qQ (qG (kS (qC (.q 0 (.q 1 (.q 2 (.q 3 (.q 4 ((.l 5 [] ((.l 6 [] (.q 7 (.q 8 ((.l 9 [] (.done)))))))))))))) Kr ?_))))
  refine qK rfl rfl rfl rfl (qK rfl rfl rfl rfl (qX rfl rfl rfl rfl (qL (k:=6) rfl rfl rfl rfl υ'151 rfl ζ'23 rfl ?_)))
  refine qP (j:=6) rfl rfl rfl rfl α'23 Tk Az (by rfl) ?_
  refine cG rfl rfl rfl rfl (cB (us:=[_]) υ'23 ζ'3 rfl ω'3 rfl rfl rfl) ?_
  intro b87
  refine qV (sV (sz:=1) (enc:=encZ) (xs:=(List.replicate m (-1:Int))) rfl rfl rfl rfl rfl υ'23 τ'3 rfl rfl rfl (by decide) Tk Tk (by first | rfl | omega | (simp;done) | (simp;omega)) (ys:=[(-1)]) (sW sC) (by rfl) (by first | rfl | omega) (encZ_len) (encZ_one) Om (by show _*8≤_;omega) ?_)
  intro ao88 cp88
  refine qV (qX rfl rfl rfl rfl (qL (k:=6) rfl rfl rfl rfl υ'151 rfl ζ'23 rfl ?_))
  refine kR (j:=6) rfl rfl rfl rfl ζ'23 (us:=[_]) rfl rfl rfl Tk Az (by first | decide | (simp;done) | omega) ?_
  simp only [setL,List.set]
  refine qV (qS (qW [1,5,8] (e':=[(1,_),(5,_),(8,_)]) rfl ?_))
  refine kK (qQ (qC (.q 0 (.q 1 (.q 2 (.done)))) Kr ?_))
  refine qK rfl rfl rfl rfl (qN rfl rfl rfl rfl rfl (cV _ (by exact kG Om Om)) ?_)
  refine qR rfl rfl rfl rfl (qS (qQ ?_))
  rw [← List.replicate_succ']
  refine cQ (x:=(m,am,cm)) ((m+1,ao88,cp88)) ?_ ?_ ?_ ?_
  · try dsimp only
    exact ⟨by omega,trivial⟩
  · show lk.toNat - (m+1) < lk.toNat - m;omega
  · exact ⟨rfl,rfl,rfl,trivial⟩
  · (try simp only [List.cons_append,List.nil_append]);exact Tf
 refine cM (qZ (qZ (kV (qQ (qG (qC (.q 0 (.q 1 (.q 2 (.done)))) Kr ?_))))))
 refine qK rfl rfl rfl rfl (qR rfl rfl rfl rfl (qR rfl rfl rfl rfl (qS (qW [2,3] (e':=[(2,_),(3,_)]) rfl ?_))))
 refine qQ (qJ ?_)
 obtain rfl:i=n:=by omega
 obtain rfl:j=th.toNat:=hj0
 obtain rfl:m=lk.toNat:=by omega
 subst hn
 rw [List.take_length]
 refine rk_fold (b:=b16) (newF th va vo lk pl) (pa:=ai) (pc:=ci) (ta:=aj) (tc:=cj) (oa:=am) (oc:=cm) (ba:=bi) (bc:=di) Ts (by rfl) (by simp [newF]) (by simp [newF]) (by simp [newF]) ?_
 refine ret2 rfl rfl rfl ((b16,ai,ci)) (by first | rfl | (first | rfl | (congr 1;done) | (congr 1 <;> first | rfl | omega | (simp;done) | (simp;omega)))) (by trivial) ?_
 exact Tf
theorem rnewbad_spec (th va vo lk:Int) (pl:List Int) (ao:Option Addr) (n c:Nat) (A:HProp) (hr:RdS A ao (pl.flatMap encZ)) (hn:pl.length=n) (hb:n≤4000000) (hok:¬ OkS th va vo lk pl):Spec Try.prog 31 [.agg #[.int .i64 th,.int .i64 va,.int .i64 vo,.int .i64 lk,.slice ao n c]] [A] (fun (_:Unit)=>.tuple #[.pointer none,.int .i64 5]) (fun _=>True) (fun _=>[A]):=by
 refine kP (n:=92) Try.func31 rfl rfl rfl ?_
 intro Γ w0
 simp only [argE,List.cons_append,List.nil_append,Nat.zero_add,Nat.reduceAdd]
 refine qG (qC ((.l 0 [] (.q 1 (.q 2 (.done))))) Kr ?_)
 refine sX rfl rfl rfl rfl (us:=[_,_,_,_,_]) rfl ?_
 intro b1
 refine qV (qR rfl rfl rfl rfl (qR rfl rfl rfl rfl (qS (qQ (qG (qC (.q 0 ((.l 1 [] (.q 2 (.done))))) Kr ?_))))))
 refine kN rfl rfl rfl rfl α'25 ζ'25 Tk 0 (us:=[_,_,_,_,_]) Az rfl rfl ?_
 have sp_1:=rshape_spec th va vo lk pl ao n c A (hr) Ln Om
 refine qM rfl rfl rfl rfl rfl rfl Try.call75 (sp_1) Ts ?_
 rintro ⟨⟩ -
 try simp only [List.cons_append,List.nil_append]
 refine qV (kH 10 rfl (v':=.int .i64 5) (by rw [if_neg hok]) ?_)
 refine qR rfl rfl rfl rfl (qS (qW [1,4] (e':=[(1,_),(4,_)]) rfl ?_))
 refine qQ (qG (qG (qC (.q 0 (.q 1 (.done))) Kr ?_)))
 refine qK rfl rfl rfl rfl (qN rfl rfl rfl rfl rfl (b_neq _ _ _ _) ?_)
 refine kH 12 rfl (v':=.bool true) (by first | rfl | simp) ?_
 refine qS (qQ (cN rfl ?_))
 refine qG (qC (.q 0 (.q 1 (.q 2 (.done)))) Kr ?_)
 refine qK rfl rfl rfl rfl (qR rfl rfl rfl rfl (qR rfl rfl rfl rfl (qS (qW [2,3] (e':=[(2,_),(3,_)]) rfl ?_))))
 refine qQ (qJ (qD (ret2 rfl rfl rfl (()) (by first | rfl | (first | rfl | (congr 1;done) | (congr 1 <;> first | rfl | omega | (simp;done) | (simp;omega)))) (by trivial) ?_)))
 exact Tf
end Go.Ab.Fe
set_option linter.unusedVariables false
set_option linter.unusedSimpArgs false
set_option maxRecDepth 100000
namespace Go.Ab.Fr
open Go Go.Proofs Go.Ab Go.Ab.Fe Go.Ab.Vc Go.Ab.Dj Go.Ab.Fa
def encR (q:RRd):List Value:=[.int .i64 q.1,.int .i64 q.2.1,.slice q.2.2.1 q.2.2.2.2.length q.2.2.2.1]
theorem encR_len:∀ x,(encR x).length=3:=fun _=>rfl
theorem encR_one:∀ x,(encR x).all Value.oneCell'=true:=fun _=>rfl
def encX (q:RVr):List Value:=[.int .i64 (q.1:Int),.int .i64 (q.2.1:Int),.int .u64 q.2.2.1,.int .u64 q.2.2.2.1,.bool q.2.2.2.2.1,.slice q.2.2.2.2.2.1.1 q.2.2.2.2.2.1.2.2.length q.2.2.2.2.2.1.2.1,.int .i64 q.2.2.2.2.2.2]
theorem encX_len:∀ x,(encX x).length=7:=fun _=>rfl
theorem encX_one:∀ x,(encX x).all Value.oneCell'=true:=fun _=>rfl
/-- All of a detector's vectors lie in the pool. -/
structure PoolA (M:List H) (r:RS):Prop where
  V:∀ h∈r.V,InP M h
  L:∀ h∈r.L,InP M h
  O:∀ h∈r.O,InP M h
  R:∀ q∈r.R,InP M q.2.2
  X:∀ q∈r.X,InP M q.2.2.2.2.2.1
theorem poolA_more {M M':List H} (hs:∀ h∈M,h∈M') {r:RS} (p:PoolA M r):PoolA M' r :=
  ⟨fun h m=>inp_more hs (p.V h m),fun h m=>inp_more hs (p.L h m),fun h m=>inp_more hs (p.O h m),fun h m=>inp_more hs (p.R h m),fun h m=>inp_more hs (p.X h m)⟩
def rfR (pa:Option Addr) (pc b:Nat) (M:List H) (x:FS):HProp:=fun h=>∃ cb Va Vc La Lc Oa Oc Ra Rc Xa Xc r,Rel x r∧PoolA M r∧Sat [cells b 0 [.pointer (some ⟨cb,0,none⟩),.slice Va r.V.length Vc,.slice La r.L.length Lc,.slice Oa r.O.length Oc,.slice Ra r.R.length Rc,.slice Xa r.X.length Xc,.int .i64 x.cost],
  rk pa pc cb x.v.ck,own 1 encH Va Vc r.V,own 1 encH La Lc r.L,own 1 encH Oa Oc r.O,own 3 encR Ra Rc r.R,own 7 encX Xa Xc r.X] h
section
variable {w0:World} {ds:List Deferred} {n:Nat} {e:Env} {Γ Γ':List HProp} {X:Act→World→Prop}
theorem rf_open {pa:Option Addr} {pc b:Nat} {M:List H} {x:FS} (k:∀ cb Va Vc La Lc Oa Oc Ra Rc Xa Xc r,Rel x r→PoolA M r→Le (St w0 ds n e (cells b 0 [.pointer (some ⟨cb,0,none⟩),.slice Va r.V.length Vc,.slice La r.L.length Lc,.slice Oa r.O.length Oc,.slice Ra r.R.length Rc,.slice Xa r.X.length Xc,.int .i64 x.cost] ::
    rk pa pc cb x.v.ck::own 1 encH Va Vc r.V::own 1 encH La Lc r.L::own 1 encH Oa Oc r.O::own 3 encR Ra Rc r.R::own 7 encX Xa Xc r.X::Γ)) X):Le (St w0 ds n e (rfR pa pc b M x::Γ)) X:=fun a w s=>by
  obtain ⟨h1,l1,⟨cb,Va,Vc,La,Lc,Oa,Oc,Ra,Rc,Xa,Xc,r,hR,hP,a1⟩,s1⟩:=s.heap
  exact k cb Va Vc La Lc Oa Oc Ra Rc Xa Xc r hR hP a w ⟨s.defers,s.size,s.env,Bun.unfold ⟨h1,l1,a1,s1⟩,s.amb⟩
theorem rf_fold {b:Nat} {M:List H} (x:FS) (r:RS) {pa:Option Addr} {pc cb Vc Lc Oc Rc Xc n1 n2 n3 n4 n5:Nat} {Va La Oa Ra Xa:Option Addr} {c:CS} {z:Int} {V L O:List H} {R:List RRd} {Y:List RVr}
    (tk:Takes Γ [cells b 0 [.pointer (some ⟨cb,0,none⟩),.slice Va n1 Vc,.slice La n2 Lc,.slice Oa n3 Oc,.slice Ra n4 Rc,.slice Xa n5 Xc,.int .i64 z],
      rk pa pc cb c,own 1 encH Va Vc V,own 1 encH La Lc L,own 1 encH Oa Oc O,own 3 encR Ra Rc R,own 7 encX Xa Xc Y] Γ') (hr:r=⟨V,L,O,R,Y⟩) (h1:n1=V.length) (h2:n2=L.length) (h3:n3=O.length) (h4:n4=R.length) (h5:n5=Y.length) (hc:c=x.v.ck) (hz:z=x.cost) (hR:Rel x r) (hP:PoolA M r)
    (k:Le (St w0 ds n e (rfR pa pc b M x::Γ')) X):Le (St w0 ds n e Γ) X:=kF (fun h s=>by
  subst h1 h2 h3 h4 h5 hr hc hz
  obtain ⟨h1,l1,a1,s1⟩:=Bun.fold (tk h s)
  exact ⟨h1,l1,⟨cb,Va,Vc,La,Lc,Oa,Oc,Ra,Rc,Xa,Xc,_,hR,hP,a1⟩,s1⟩) k
theorem rf_more {pa:Option Addr} {pc b:Nat} {M M':List H} {x:FS} (hs:∀ h∈M,h∈M') (tk:Take Γ (rfR pa pc b M x) Γ') (k:Le (St w0 ds n e (rfR pa pc b M' x::Γ')) X):Le (St w0 ds n e Γ) X:=kF (fun h s=>by
  obtain ⟨h1,l1,⟨cb,Va,Vc,La,Lc,Oa,Oc,Ra,Rc,Xa,Xc,r,hR,hP,a1⟩,s1⟩:=tk h s
  exact ⟨h1,l1,⟨cb,Va,Vc,La,Lc,Oa,Oc,Ra,Rc,Xa,Xc,r,hR,poolA_more hs hP,a1⟩,s1⟩) k
end
/-! ### Behind no event -/
def rNew (th va vo lk:Int) (hv:H):RS:=⟨(List.replicate th.toNat h0).set 0 hv,List.replicate lk.toNat h0,List.replicate vo.toNat h0,[],List.replicate va.toNat (0,0,0,0,false,h0,-1)⟩
theorem rel_new {th va vo lk:Int} {pl:List Int} (hok:OkS th va vo lk pl) {hv:H} (h1:hv.2.2=[1]):Rel (fNew th va vo lk pl) (rNew th va vo lk hv):=by
  have a1:=hok.th;have a2:=hok.va;have a3:=hok.vo;have a4:=hok.lk
  refine ⟨by simp [rNew,fNew,vNew,newF];omega,fun t h ht=>?_,by simp [rNew,fNew,vNew,newF];omega,fun o h ho=>?_,by simp [rNew,fNew,vNew,newF];omega,fun o h ho=>?_,by simp [rNew,fNew],fun i w q hw hq=>?_,Int.le_refl _,.nil,fun q hq=>(by cases hq),fun o n p hp=>(by cases hp),fun q hq=>(by cases hq)⟩
  · have hth:thF (fNew th va vo lk pl).v (t:Int)=if t=0 then [1] else []:=by
      show (upd noF 0 (some [1]) (t:Int)).getD []=_
      unfold upd
      by_cases h:t=0
      · subst h;rfl
      · rw [if_neg h,if_neg Om];rfl
    rw [hth]
    by_cases h:t=0
    · subst h
      have:(List.replicate th.toNat h0).set 0 hv=hv::List.replicate (th.toNat - 1) h0:=by
        obtain ⟨k,hk⟩:∃ k,th.toNat=k+1:=⟨th.toNat - 1,by omega⟩
        rw [hk,List.replicate_succ];rfl
      simp only [rNew] at ht
      rw [this] at ht
      simp at ht
      subst ht
      rw [h1,if_pos rfl]
      exact ⟨⟨by decide,by decide⟩,by decide⟩
    · simp only [rNew] at ht
      rw [List.getElem?_set_ne Om] at ht
      have:=(List.mem_replicate.1 (List.mem_of_getElem? ht)).2
      subst this
      rw [if_neg h]
      exact ⟨ok_nil,rfl⟩
  · have:=(List.mem_replicate.1 (List.mem_of_getElem? ho)).2
    subst this;exact ⟨ok_nil,rfl⟩
  · have:=(List.mem_replicate.1 (List.mem_of_getElem? ho)).2
    subst this;exact ⟨ok_nil,rfl⟩
  · have e1:=(List.mem_replicate.1 (List.mem_of_getElem? hw)).2
    have e2:=(List.mem_replicate.1 (List.mem_of_getElem? hq)).2
    subst e1 e2
    exact ⟨⟨rfl,rfl,rfl,rfl,rfl,⟨by decide,by decide⟩,⟨⟨by decide,by decide⟩,by decide,by decide⟩,fun h=>(by cases h)⟩,ok_nil⟩
end Go.Ab.Fr
