/- What the law Plays rests on, part 7 of 7. -/
import Derived.Test.YtiefkbajaffgcaaGreatPlaysF
import Derived.Test.YtiefkbajaffgcaaGreatRows
import Derived.WalkKit
import Derived.ProofKit
import Derived.OpenShut
import Derived.JoinedCond
import Derived.Carry
set_option linter.unusedVariables false
set_option linter.unusedSimpArgs false
set_option maxRecDepth 100000
namespace Go.Ab.Rh
open Go Go.Proofs Go.Ab Go.Ab.Fe Go.Ab.Vc Go.Ab.Dj Go.Ab.Rv Go.Ab.Hi
/-- Lists that were answered, and what must stand in them. -/
structure BK where
  C:List (LstA Int)
  W:List (LstA Int)
  F:List (LstA T3)
  G:List (LstA T3)
structure BOk (n:Nat) (B:BK):Prop where
  c:B.C.map (·.2.2)=B.W.map (·.2.2)
  f:B.F.map (·.2.2)=B.G.map (·.2.2)
  cb:∀ x∈B.C,x.2.2.length≤4000000000000
  fb:∀ x∈B.F,x.2.2.length≤65535
  cn:B.C.length≤n
  fn:B.F.length≤n
theorem bok_nil:BOk 0 ⟨[],[],[],[]⟩:=⟨rfl,rfl,fun x h=>(by cases h),fun x h=>(by cases h),Nat.le_refl _,Nat.le_refl _⟩
theorem bok_c {n:Nat} {B:BK} (h:BOk n B) {x y:LstA Int} (e:x.2.2=y.2.2) (hl:x.2.2.length≤4000000000000):BOk (n+1) ⟨B.C++[x],B.W++[y],B.F,B.G⟩ :=
  ⟨by rw [List.map_append,List.map_append,h.c];simp [e],h.f,fun z hz=>by
    rcases List.mem_append.1 hz with hz | hz
    · exact h.cb z hz
    · simp only [List.mem_singleton] at hz;rw [hz];exact hl,h.fb,by have:=h.cn;simp;omega,by have:=h.fn;show B.F.length≤_;omega⟩
theorem bok_f {n:Nat} {B:BK} (h:BOk n B) {x y:LstA T3} (e:x.2.2=y.2.2) (hl:x.2.2.length≤65535):BOk (n+1) ⟨B.C,B.W,B.F++[x],B.G++[y]⟩ :=
  ⟨h.c,by rw [List.map_append,List.map_append,h.f];simp [e],h.cb,fun z hz=>by
    rcases List.mem_append.1 hz with hz | hz
    · exact h.fb z hz
    · simp only [List.mem_singleton] at hz;rw [hz];exact hl,by have:=h.cn;show B.C.length≤_;omega,by have:=h.fn;simp;omega⟩
theorem bok_more {n m:Nat} {B:BK} (h:BOk n B) (hn:n≤m):BOk m B:=⟨h.c,h.f,h.cb,h.fb,Nat.le_trans h.cn hn,Nat.le_trans h.fn hn⟩
theorem bok_len {n:Nat} {B:BK} (h:BOk n B):B.W.length=B.C.length∧B.G.length=B.F.length:=⟨by simpa using (congrArg List.length h.c).symm,by simpa using (congrArg List.length h.f).symm⟩
theorem same_at {α:Type} {C W:List (LstA α)} (h:C.map (·.2.2)=W.map (·.2.2)) {i:Nat} {x y:LstA α} (hx:C[i]?=some x) (hy:W[i]?=some y):x.2.2=y.2.2:=by
  have h1:(C.map (·.2.2))[i]?=some x.2.2:=by rw [List.getElem?_map,hx];rfl
  have h2:(W.map (·.2.2))[i]?=some y.2.2:=by rw [List.getElem?_map,hy];rfl
  rw [h,h2] at h1;exact (Option.some.inj h1).symm
def tabR (b:Nat) (o0 o1 r0 r1:Option Addr) (B:BK):HProp:=fun h=>∃ ca cc wa wc fa fc ga gc,Sat [cells b 0 [.pointer o0,.pointer o1,.pointer r0,.pointer r1,.slice ca B.C.length cc,.slice wa B.W.length wc,.slice fa B.F.length fc,.slice ga B.G.length gc],
  own 1 encH ca cc B.C,own 1 encH wa wc B.W,own 1 encH fa fc B.F,own 1 encH ga gc B.G,bigS (owA 1 encZ) B.C,bigS (owA 1 encZ) B.W,bigS (owA 3 enc3) B.F,bigS (owA 3 enc3) B.G] h
section
variable {w0:World} {ds:List Deferred} {n:Nat} {e:Env} {Γ Γ':List HProp} {X:Act→World→Prop}
theorem tab_open {b:Nat} {o0 o1 r0 r1:Option Addr} {B:BK} (tk:Take Γ (tabR b o0 o1 r0 r1 B) Γ') (k:∀ ca cc wa wc fa fc ga gc,Le (St w0 ds n e (cells b 0 [.pointer o0,.pointer o1,.pointer r0,.pointer r1,.slice ca B.C.length cc,.slice wa B.W.length wc,.slice fa B.F.length fc,.slice ga B.G.length gc] ::
    own 1 encH ca cc B.C::own 1 encH wa wc B.W::own 1 encH fa fc B.F::own 1 encH ga gc B.G::bigS (owA 1 encZ) B.C::bigS (owA 1 encZ) B.W::bigS (owA 3 enc3) B.F::bigS (owA 3 enc3) B.G::Γ')) X):Le (St w0 ds n e Γ) X:=fun a w s=>by
  obtain ⟨h1,l1,⟨ca,cc,wa,wc,fa,fc,ga,gc,a1⟩,s1⟩:=tk _ s.heap
  exact k ca cc wa wc fa fc ga gc a w ⟨s.defers,s.size,s.env,Bun.unfold ⟨h1,l1,a1,s1⟩,s.amb⟩
theorem tab_fold {b:Nat} {o0 o1 r0 r1:Option Addr} {C W:List (LstA Int)} {F G:List (LstA T3)} {ca wa fa ga:Option Addr} {cc wc fc gc n1 n2 n3 n4:Nat} (tk:Takes Γ [cells b 0 [.pointer o0,.pointer o1,.pointer r0,.pointer r1,.slice ca n1 cc,.slice wa n2 wc,.slice fa n3 fc,.slice ga n4 gc],
    own 1 encH ca cc C,own 1 encH wa wc W,own 1 encH fa fc F,own 1 encH ga gc G,bigS (owA 1 encZ) C,bigS (owA 1 encZ) W,bigS (owA 3 enc3) F,bigS (owA 3 enc3) G] Γ') (h1:n1=C.length) (h2:n2=W.length) (h3:n3=F.length) (h4:n4=G.length)
    (k:Le (St w0 ds n e (tabR b o0 o1 r0 r1 ⟨C,W,F,G⟩::Γ')) X):Le (St w0 ds n e Γ) X:=cL (fun h s=>by
  subst h1 h2 h3 h4
  obtain ⟨h1,l1,a1,s1⟩:=Bun.fold (tk h s)
  exact ⟨h1,l1,⟨ca,cc,wa,wc,fa,fc,ga,gc,a1⟩,s1⟩) k
end
theorem sAg_len {pl:List Int} {N:Int} {m:Option HA} (h:SOk pl N m) (hN:N≤1900000000000) (k t o:Int):(sAg m k t o).length≤4000000000000:=by
  cases m with
  | none=>exact Nat.zero_le _
  | some x =>
    obtain ⟨h1,-,-,h4⟩:=h x rfl
    show (if canF x.1.v.ck k t o then agF x.1 k t o else []).length≤_
    split
    · have h5:=agF_len x.1 k t o
      have h6:=h1.kn
      omega
    · exact Nat.zero_le _
theorem sPr_len {pl:List Int} {N:Int} {m:Option HA} (h:SOk pl N m):(sPr m).length≤65535:=by
  cases m with
  | none=>exact Nat.zero_le _
  | some x =>
    obtain ⟨h1,-⟩:=h x rfl
    have h2:=prF_len x.1.vars
    have h3:=h1.len
    have h4:=h1.v.ck.sh.va
    show (prF x.1.vars).length≤_
    omega
theorem tells_spec (b:Nat) (o0 o1 r0 r1:Option Addr) (B:BK) (n_:Nat) (hB:BOk n_ B) (hn_:n_≤3999990) (pa:Option Addr) (pc:Nat) (po:Option Addr) (poc:Nat) (ra:Option Addr) (rc:Nat) (o r:Option Addr) (m:Option HA) (pl:List Int) (N:Int) (hN:N≤1900000000000) (hm:SOk pl N m) (kd on k t u z y:Int) (eo:Option Addr) (en ec:Nat):Spec Tryz.prog 22 [.pointer (some ⟨b,0,none⟩),.agg #[.int .i64 kd,.int .i64 on,.int .i64 k,.int .i64 t,.int .i64 u,.slice eo en ec,.int .i64 z,.int .i64 y],.pointer o,.pointer r] [tabR b o0 o1 r0 r1 B,ownP pa pc po poc o m,refP ra rc r m] (fun (B2:BK)=>.bool true) (fun B2=>BOk (n_+1) B2) (fun B2=>[tabR b o0 o1 r0 r1 B2,ownP pa pc po poc o m,refP ra rc r m]):=by
 refine kS (n:=222) Tryz.func22 J J J ?_
 intro Γ w0
 simp only [argE,Ca,Na,Zd,Nat.reduceAdd]
 obtain ⟨hbl1,hbl2⟩:=bok_len hB
 have hbl3:=hB.cn
 have hbl4:=hB.fn
 refine qL (qC ((.l 0 [] (.q 1 (.done)))) Kr ?_)
 refine sG J J J J (us:=[_,_,_,_,_,_,_,_]) J ?_
 intro b5
 refine qV (qR J J J J (qS (qQ (qL (qL (qC (.q 0 (.q 1 (.done))) Kr ?_))))))
 refine qG (k:=0) J J J J υ'55 J ζ'3 J ?_
 refine qP (j:=0) J J J J α'3 Tk Az (by rfl) ?_
 refine qS (qQ (kV (qL (qC (.q 0 (.q 1 (.done))) Kr ?_))))
 refine qD J J J J J (cZ _ _ _ _) ?_
 refine qR J J J J (qS (qW [0,2,3,5,34,35] (e':=[(0,_),(2,_),(3,_),(5,_),(34,_),(35,_)]) J ?_))
 refine qQ ?_
 refine qF J (fun h2_=>?_) (fun h2_=>?_)
 ·
  refine qL (qC (.q 0 ((.l 1 [] (.q 2 (.done))))) Kr ?_)
  refine qK J J J J ?_
  have sp_1:=own_pr pa pc po poc o m pl N hN hm 
  refine qB J J J J J J Tryz.call13 (sp_1) Ts ?_
  rintro ⟨xa,xc⟩ -
  try simp only [Ca,Na]
  refine qV (qR J J J J (qS (qW [0,2,3,9] (e':=[(0,_),(2,_),(3,_),(9,_)]) J ?_)))
  refine qQ (qL (qC (.q 0 ((.l 1 [] (.q 2 (.done))))) Kr ?_))
  refine qK J J J J ?_
  have sp_2:=ref_pr ra rc r m pl N hN hm 
  refine qB J J J J J J Tryz.call44 (sp_2) Ts ?_
  rintro ⟨ya,yc⟩ -
  try simp only [Ca,Na]
  refine qV (qR J J J J (qS (qQ (qL (tab_open (b:=b) (B:=B) Tk fun ca cc wa wc fa fc ga gc=>?_)))))
  refine qC (.q 0 (.q 1 (.q 2 (.q 3 (.q 4 (.q 5 ((.l 6 [] ((.l 7 [] (.q 8 (.q 9 ((.l 10 [] (.done))))))))))))))) Kr ?_
  refine qK J J J J (qK J J J J (qZ J J J J (qG (k:=6) J J J J υ'43 J ζ'41 J ?_)))
  refine qP (j:=6) J J J J α'41 Tk Az (by rfl) ?_
  refine qK J J J J (kJ J J J J (cW (us:=[_]) υ'41 ζ'62 J Tryz.zeroValue62 J J J) ?_)
  intro b47
  refine qV (cN (sz:=1) (enc:=encH) (xs:=B.F) J J J J J υ'41 Tryz.typeInfo62 J J J (by decide) Tk Tk (by first | rfl | omega | (simp;done) | (simp;omega)) (ys:=[((xa,xc,sPr m):LstA T3)]) (cJ cB) (by rfl) (by first | rfl | omega) (sB) (encH_one) Om (by show _*24≤_;omega) ?_)
  intro ao48 cp48
  refine qV (qZ J J J J (qG (k:=6) J J J J υ'43 J ζ'41 J ?_))
  refine kR (j:=6) J J J J ζ'41 (us:=[_]) J J J Tk Az (by first | decide | (simp;done) | omega) ?_
  simp only [setL,List.set]
  refine qV (qS (qW [0,2,3,9,10] (e':=[(0,_),(2,_),(3,_),(9,_),(10,_)]) J ?_))
  refine qQ (qL (qC (.q 0 (.q 1 (.q 2 (.q 3 (.q 4 (.q 5 ((.l 6 [] ((.l 7 [] (.q 8 (.q 9 ((.l 10 [] (.done))))))))))))))) Kr ?_))
  refine qK J J J J (qK J J J J (qZ J J J J (qG (k:=7) J J J J υ'43 J ζ'41 J ?_)))
  refine qP (j:=7) J J J J α'41 Tk Az (by rfl) ?_
  refine qK J J J J (kJ J J J J (cW (us:=[_]) υ'41 ζ'62 J Tryz.zeroValue62 J J J) ?_)
  intro b57
  refine qV (cN (sz:=1) (enc:=encH) (xs:=B.G) J J J J J υ'41 Tryz.typeInfo62 J J J (by decide) Tk Tk (by first | rfl | omega | (simp;done) | (simp;omega)) (ys:=[((ya,yc,sPr m):LstA T3)]) (cJ cB) (by rfl) (by first | rfl | omega) (sB) (encH_one) Om (by show _*24≤_;omega) ?_)
  intro ao58 cp58
  refine qV (qZ J J J J (qG (k:=7) J J J J υ'43 J ζ'41 J ?_))
  refine kR (j:=7) J J J J ζ'41 (us:=[_]) J J J Tk Az (by first | decide | (simp;done) | omega) ?_
  simp only [setL,List.set]
  refine qV (qS (qW [2,3,9,10] (e':=[(2,_),(3,_),(9,_),(10,_)]) J ?_))
  refine qQ (qL ?_)
  have hfl_:=sPr_len hm
  refine qC (.q 0 (.q 1 ((.l 2 [] (.q 3 (.q 4 ((.l 5 [] (.q 6 ((.l 7 [] (.q 8 (.q 9 (.q 10 (.done))))))))))))))) Kr ?_
  refine qK J J J J (qK J J J J (cP (A:=own 3 enc3 xa xc (sPr m)) Tk ?_))
  refine own_fc fun f_3a f_3b f_3c=>?_
  refine cP (A:=own 3 enc3 ya yc (sPr m)) Tk ?_
  refine own_fc fun f_4a f_4b f_4c=>?_
  refine cL (fun _ h=>Bun.fold ((by (repeat ((with_reducible apply Z2);focus (first | (with_reducible (repeat (first | exact Z0 | apply Z1));done) | (repeat (first | exact Z0 | apply Z1)))));exact Z3:Takes _ [own 3 enc3 xa xc (sPr m),own 3 enc3 ya yc (sPr m)] _) _ h)) ?_
  have sp_5:=Hi.pairs_same (sPr m) (sPr m) xa ya ((sPr m).length) ((sPr m).length) xc yc (Bun [own 3 enc3 xa xc (sPr m),own 3 enc3 ya yc (sPr m)]) Ln (rds_bun (List.mem_cons_self) (rC enc3_len (fun h=>(f_3b h).1) f_3c)) Ln (rds_bun (List.mem_cons_of_mem _ (List.mem_cons_self)) (rC enc3_len (fun h=>(f_4b h).1) f_4c)) Om
  refine qB J J J J J J Tryz.call12 (sp_5) Ts ?_
  rintro ⟨⟩ -
  try simp only [Ca,Na]
  refine cP (A:=Bun [own 3 enc3 xa xc (sPr m),own 3 enc3 ya yc (sPr m)]) Tk ?_
  refine s_bun ?_
  try simp only [Ca,Na]
  try simp only [Ca,Na]
  refine qV (kF 63 J (v':=.bool true) (by first | (rw [decide_eq_true rfl];done) | simp) ?_)
  refine qK J J J J (qK J J J J ?_)
  have sp_6:=own_le pa pc po poc o m pl N hN hm 
  refine qB J J J J J J Tryz.call45 (sp_6) Ts ?_
  rintro ⟨⟩ -
  try simp only [Ca,Na]
  refine qV (qK J J J J ?_)
  have sp_7:=ref_le ra rc r m pl N hN hm 
  refine qB J J J J J J Tryz.call46 (sp_7) Ts ?_
  rintro ⟨⟩ -
  try simp only [Ca,Na]
  refine qV (qD J J J J J (cZ _ _ _ _) ?_)
  refine kF 69 J (v':=.bool true) (by first | (rw [decide_eq_true rfl];done) | simp) ?_
  refine kL J J J J J (qR J J J J (qS (qW [8] (e':=[(8,_)]) J ?_)))
  refine qQ (qJ (kH (qN (s_big_push (f:=owA 3 enc3) (L:=B.F) (x:=(xa,xc,sPr m)) Ts ?_))))
  refine s_big_push (f:=owA 3 enc3) (L:=B.G) (x:=(ya,yc,sPr m)) Ts ?_
  refine tab_fold (b:=b) (o0:=o0) (o1:=o1) (r0:=r0) (r1:=r1) (C:=B.C) (W:=B.W) (F:=(B.F++[(xa,xc,sPr m)])) (G:=(B.G++[(ya,yc,sPr m)])) (ca:=ca) (cc:=cc) (wa:=wa) (wc:=wc) (fa:=ao48) (fc:=cp48) (ga:=ao58) (gc:=cp58) Ts (by first | rfl | simp) (by first | rfl | simp) (by first | rfl | simp) (by first | rfl | simp) ?_
  refine cR J J (⟨B.C,B.W,(B.F++[(xa,xc,sPr m)]),(B.G++[(ya,yc,sPr m)])⟩) (by first | rfl | (first | rfl | (congr 1;done) | (congr 1 <;> first | rfl | omega | (simp;done) | (simp;omega)))) (by exact bok_f hB J (sPr_len hm)) ?_
  exact Tf
 refine qL (qC (.q 0 (.q 1 (.done))) Kr ?_)
 refine qD J J J J J (cZ _ _ _ _) ?_
 refine qR J J J J (qS (qQ ?_))
 refine qF J (fun h3_=>?_) (fun h3_=>?_)
 ·
  refine qL (qC (.q 0 (.q 1 (.q 2 ((.l 3 [] (.q 4 (.q 5 (.q 6 ((.l 7 [] ((.l 8 [] (.q 9 (.done)))))))))))))) Kr ?_)
  refine qK J J J J (qG (k:=6) J J J J υ'55 J ζ'3 J ?_)
  refine qP (j:=6) J J J J α'3 Tk Az (by rfl) ?_
  have sp_8:=own_pa pa pc po poc o m pl N hN hm z
  refine qB J J J J J J Tryz.call47 (sp_8) Ts ?_
  rintro ⟨⟩ -
  try simp only [Ca,Na]
  refine qV (qK J J J J (kX J J J J J (kX J J J J J (cY J J J ω'65 (zs:=[.int .i64 0,.int .i64 0,.int .i64 0]) J ?_))))
  intro b11
  refine qV (kR (j:=0) J J J J ζ'65 (us:=[_,_,_]) J J J Tk Az (by first | decide | (simp;done) | omega) ?_)
  simp only [setL,List.set]
  refine qV (qR J J J J (qS (qW [2,3,5,11,12] (e':=[(2,_),(3,_),(5,_),(11,_),(12,_)]) J ?_)))
  refine qQ (qL (qC (.q 0 (.q 1 (.q 2 ((.l 3 [] (.q 4 (.q 5 (.q 6 ((.l 7 [] ((.l 8 [] (.q 9 (.done)))))))))))))) Kr ?_))
  refine qK J J J J (qG (k:=6) J J J J υ'55 J ζ'3 J ?_)
  refine qP (j:=6) J J J J α'3 Tk Az (by rfl) ?_
  have sp_9:=ref_pa ra rc r m pl N hN hm z
  refine qB J J J J J J Tryz.call48 (sp_9) Ts ?_
  rintro ⟨⟩ -
  try simp only [Ca,Na]
  refine qV (qK J J J J (kX J J J J J (kX J J J J J (cY J J J ω'65 (zs:=[.int .i64 0,.int .i64 0,.int .i64 0]) J ?_))))
  intro b13
  refine qV (kR (j:=0) J J J J ζ'65 (us:=[_,_,_]) J J J Tk Az (by first | decide | (simp;done) | omega) ?_)
  simp only [setL,List.set]
  refine qV (qR J J J J (qS (qW [2,3,5,11,12,13,14] (e':=[(2,_),(3,_),(5,_),(11,_),(12,_),(13,_),(14,_)]) J ?_)))
  refine qQ (qL (qC (.q 0 (.q 1 (.q 2 ((.l 3 [] (.q 4 (.q 5 (.q 6 ((.l 7 [] ((.l 8 [] (.q 9 (.done)))))))))))))) Kr ?_))
  refine qK J J J J (qG (k:=6) J J J J υ'55 J ζ'3 J ?_)
  refine qP (j:=6) J J J J α'3 Tk Az (by rfl) ?_
  have sp_10:=own_la pa pc po poc o m pl N hN hm z
  refine qB J J J J J J Tryz.call49 (sp_10) Ts ?_
  rintro ⟨⟩ -
  try simp only [Ca,Na]
  refine qV (qK J J J J (kX J J J J J (kX J J J J J (cY J J J ω'65 (zs:=[.int .i64 0,.int .i64 0,.int .i64 0]) J ?_))))
  intro b15
  refine qV (kR (j:=0) J J J J ζ'65 (us:=[_,_,_]) J J J Tk Az (by first | decide | (simp;done) | omega) ?_)
  simp only [setL,List.set]
  refine qV (qR J J J J (qS (qW [3,5,11,12,13,14,15,16] (e':=[(3,_),(5,_),(11,_),(12,_),(13,_),(14,_),(15,_),(16,_)]) J ?_)))
  refine qQ (qL (qC (.q 0 (.q 1 (.q 2 ((.l 3 [] (.q 4 (.q 5 (.q 6 ((.l 7 [] ((.l 8 [] (.q 9 (.done)))))))))))))) Kr ?_))
  refine qK J J J J (qG (k:=6) J J J J υ'55 J ζ'3 J ?_)
  refine qP (j:=6) J J J J α'3 Tk Az (by rfl) ?_
  have sp_11:=ref_la ra rc r m pl N hN hm z
  refine qB J J J J J J Tryz.call50 (sp_11) Ts ?_
  rintro ⟨⟩ -
  try simp only [Ca,Na]
  refine qV (qK J J J J (kX J J J J J (kX J J J J J (cY J J J ω'65 (zs:=[.int .i64 0,.int .i64 0,.int .i64 0]) J ?_))))
  intro b17
  refine qV (kR (j:=0) J J J J ζ'65 (us:=[_,_,_]) J J J Tk Az (by first | decide | (simp;done) | omega) ?_)
  simp only [setL,List.set]
  refine qV (qR J J J J (qS (qW [11,12,13,14,15,16,17,18] (e':=[(11,_),(12,_),(13,_),(14,_),(15,_),(16,_),(17,_),(18,_)]) J ?_)))
  refine qQ (qL (qC (.q 0 (.q 1 (.q 2 (.q 3 (.q 4 (.q 5 (.q 6 (.q 7 (.q 8 (.q 9 (.q 10 (.q 11 (.q 12 (.q 13 (.q 14 (.q 15 (.q 16 (.q 17 (.q 18 (.done)))))))))))))))))))) Kr ?_))
  refine kC J J J J α'65 ζ'65 Tk 0 (us:=[_,_,_]) Az J J ?_
  refine kC J J J J α'65 ζ'65 Tk 0 (us:=[_,_,_]) Az J J ?_
  refine q_eqS J J J J J Kr (eqc_struct υ'65 Kr (rL J α'3 J J (sF υ'3) (rL J α'3 J J (sF υ'3) (eqf_last J α'3 J J (sF υ'3))))) ?_
  refine kF 103 J (v':=.bool true) (by first | (rw [decide_eq_true rfl];done) | simp) ?_
  refine qK J J J J (qK J J J J (qK J J J J (q_eqb J J J J J υ'4 ?_)))
  refine kF 107 J (v':=.bool true) (by first | (rw [decide_eq_true rfl];done) | simp) ?_
  refine kL J J J J J (qK J J J J (kC J J J J α'65 ζ'65 Tk 0 (us:=[_,_,_]) Az J J ?_))
  refine kC J J J J α'65 ζ'65 Tk 0 (us:=[_,_,_]) Az J J ?_
  refine q_eqS J J J J J Kr (eqc_struct υ'65 Kr (rL J α'3 J J (sF υ'3) (rL J α'3 J J (sF υ'3) (eqf_last J α'3 J J (sF υ'3))))) ?_
  refine kF 112 J (v':=.bool true) (by first | (rw [decide_eq_true rfl];done) | simp) ?_
  refine kL J J J J J (qK J J J J (qK J J J J (qK J J J J (q_eqb J J J J J υ'4 ?_))))
  refine kF 117 J (v':=.bool true) (by first | (rw [decide_eq_true rfl];done) | simp) ?_
  refine kL J J J J J (qR J J J J (qS (qW [8] (e':=[(8,_)]) J ?_)))
  refine qQ (qJ (kH (qN (cR J J (B) (by first | rfl | (first | rfl | (congr 1;done) | (congr 1 <;> first | rfl | omega | (simp;done) | (simp;omega)))) (by exact bok_more hB Om) ?_))))
  exact Tf
 refine qL (qC (.q 0 (.q 1 (.done))) Kr ?_)
 refine qD J J J J J (cZ _ _ _ _) ?_
 refine qR J J J J (qS (qW [0,2,3,5,34,119] (e':=[(0,_),(2,_),(3,_),(5,_),(34,_),(119,_)]) J ?_))
 refine qQ ?_
 refine qF J (fun h4_=>?_) (fun h4_=>?_)
 ·
  refine qL (qC (.q 0 (.q 1 (.q 2 (.q 3 (.q 4 ((.l 5 [] (.q 6 (.q 7 (.q 8 ((.l 9 [] ((.l 10 [] (.q 11 (.done)))))))))))))))) Kr ?_)
  refine qK J J J J (qG (k:=6) J J J J υ'55 J ζ'3 J ?_)
  refine qP (j:=6) J J J J α'3 Tk Az (by rfl) ?_
  refine qG (k:=7) J J J J υ'55 J ζ'3 J ?_
  refine qP (j:=7) J J J J α'3 Tk Az (by rfl) ?_
  have sp_12:=own_ls pa pc po poc o m pl N hN hm z y
  refine qB J J J J J J Tryz.call51 (sp_12) Ts ?_
  rintro ⟨⟩ -
  try simp only [Ca,Na]
  refine qV (qK J J J J (kX J J J J J (kX J J J J J (cY J J J ω'119 (zs:=[.int .i64 0,.int .i64 0,.int .u64 0,.int .u64 0]) J ?_))))
  intro b19
  refine qV (kR (j:=0) J J J J ζ'119 (us:=[_,_,_,_]) J J J Tk Az (by first | decide | (simp;done) | omega) ?_)
  simp only [setL,List.set]
  refine qV (qR J J J J (qS (qW [3,5,19,20] (e':=[(3,_),(5,_),(19,_),(20,_)]) J ?_)))
  refine qQ (qL (qC (.q 0 (.q 1 (.q 2 (.q 3 (.q 4 ((.l 5 [] (.q 6 (.q 7 (.q 8 ((.l 9 [] ((.l 10 [] (.q 11 (.done)))))))))))))))) Kr ?_))
  refine qK J J J J (qG (k:=6) J J J J υ'55 J ζ'3 J ?_)
  refine qP (j:=6) J J J J α'3 Tk Az (by rfl) ?_
  refine qG (k:=7) J J J J υ'55 J ζ'3 J ?_
  refine qP (j:=7) J J J J α'3 Tk Az (by rfl) ?_
  have sp_13:=ref_ls ra rc r m pl N hN hm z y
  refine qB J J J J J J Tryz.call52 (sp_13) Ts ?_
  rintro ⟨⟩ -
  try simp only [Ca,Na]
  refine qV (qK J J J J (kX J J J J J (kX J J J J J (cY J J J ω'119 (zs:=[.int .i64 0,.int .i64 0,.int .u64 0,.int .u64 0]) J ?_))))
  intro b21
  refine qV (kR (j:=0) J J J J ζ'119 (us:=[_,_,_,_]) J J J Tk Az (by first | decide | (simp;done) | omega) ?_)
  simp only [setL,List.set]
  refine qV (qR J J J J (qS (qW [19,20,21,22] (e':=[(19,_),(20,_),(21,_),(22,_)]) J ?_)))
  refine qQ (qL (qC (.q 0 (.q 1 (.q 2 (.q 3 (.q 4 ((.l 5 [] (.q 6 (.q 7 (.q 8 (.q 9 (.done)))))))))))) Kr ?_))
  refine kC J J J J α'119 ζ'119 Tk 0 (us:=[_,_,_,_]) Az J J ?_
  refine kC J J J J α'119 ζ'119 Tk 0 (us:=[_,_,_,_]) Az J J ?_
  refine q_eqS J J J J J Kr (eqc_struct υ'119 Kr (rL J α'3 J J (sF υ'3) (rL J α'3 J J (sF υ'3) (rL J α'97 J J (sF Tryz.underlying97) (eqf_last J α'97 J J (sF Tryz.underlying97)))))) ?_
  refine kF 141 J (v':=.bool true) (by first | (rw [decide_eq_true rfl];done) | simp) ?_
  refine qK J J J J (qK J J J J ?_)
  have sp_14:=Hi.num_spec (sLe m z y)
  refine qB J J J J J J κ'7 (sp_14) Ts ?_
  rintro ⟨⟩ -
  try simp only [Ca,Na]
  refine qV (qK J J J J (qD J J J J J (cZ _ _ _ _) ?_))
  refine kF 146 J (v':=.bool true) (by first | (rw [decide_eq_true rfl];done) | simp) ?_
  refine kL J J J J J (qR J J J J (qS (qW [8] (e':=[(8,_)]) J ?_)))
  refine qQ (qJ (kH (qN (cR J J (B) (by first | rfl | (first | rfl | (congr 1;done) | (congr 1 <;> first | rfl | omega | (simp;done) | (simp;omega)))) (by exact bok_more hB Om) ?_))))
  exact Tf
 refine qL (qC (.q 0 (.q 1 (.done))) Kr ?_)
 refine qD J J J J J (cZ _ _ _ _) ?_
 refine qR J J J J (qS (qQ ?_))
 refine qF J (fun h5_=>?_) (fun h5_=>?_)
 ·
  refine qL (qC (.q 0 (.q 1 (.q 2 ((.l 3 [] (.q 4 (.q 5 (.q 6 (.q 7 (.q 8 (.done))))))))))) Kr ?_)
  refine qK J J J J (qG (k:=2) J J J J υ'55 J ζ'52 J ?_)
  refine kC J J J J α'52 ζ'52 Tk 2 (us:=[_,_,_]) Az J J ?_
  have sp_15:=own_ag pa pc po poc o m pl N hN hm k t u
  refine qB J J J J J J Tryz.call11 (sp_15) Ts ?_
  rintro ⟨xa,xc⟩ -
  try simp only [Ca,Na]
  refine qV (qK J J J J (kX J J J J J (kX J J J J J (qR J J J J (qR J J J J (qS (qW [0,3,5,23,24] (e':=[(0,_),(3,_),(5,_),(23,_),(24,_)]) J ?_)))))))
  refine qQ (qL (qC (.q 0 (.q 1 (.q 2 ((.l 3 [] (.q 4 (.q 5 (.q 6 (.q 7 (.q 8 (.done))))))))))) Kr ?_))
  refine qK J J J J (qG (k:=2) J J J J υ'55 J ζ'52 J ?_)
  refine kC J J J J α'52 ζ'52 Tk 2 (us:=[_,_,_]) Az J J ?_
  have sp_16:=ref_ag ra rc r m pl N hN hm k t u
  refine qB J J J J J J Tryz.call53 (sp_16) Ts ?_
  rintro ⟨ya,yc⟩ -
  try simp only [Ca,Na]
  refine qV (qK J J J J (kX J J J J J (kX J J J J J (qR J J J J (qR J J J J (qS (qW [0,23,24,25,26] (e':=[(0,_),(23,_),(24,_),(25,_),(26,_)]) J ?_)))))))
  refine qQ (qL (tab_open (b:=b) (B:=B) Tk fun ca cc wa wc fa fc ga gc=>?_))
  refine qC (.q 0 (.q 1 (.q 2 (.q 3 (.q 4 (.q 5 ((.l 6 [] ((.l 7 [] (.q 8 (.q 9 ((.l 10 [] (.done))))))))))))))) Kr ?_
  refine qK J J J J (qK J J J J (qZ J J J J (qG (k:=4) J J J J υ'43 J ζ'40 J ?_)))
  refine qP (j:=4) J J J J α'40 Tk Az (by rfl) ?_
  refine qK J J J J (kJ J J J J (cW (us:=[_]) υ'40 ζ'22 J Tryz.zeroValue22 J J J) ?_)
  intro b170
  refine qV (cN (sz:=1) (enc:=encH) (xs:=B.C) J J J J J υ'40 Tryz.typeInfo22 J J J (by decide) Tk Tk (by first | rfl | omega | (simp;done) | (simp;omega)) (ys:=[((xa,xc,sAg m k t u):LstA Int)]) (cJ cB) (by rfl) (by first | rfl | omega) (sB) (encH_one) Om (by show _*24≤_;omega) ?_)
  intro ao171 cp171
  refine qV (qZ J J J J (qG (k:=4) J J J J υ'43 J ζ'40 J ?_))
  refine kR (j:=4) J J J J ζ'40 (us:=[_]) J J J Tk Az (by first | decide | (simp;done) | omega) ?_
  simp only [setL,List.set]
  refine qV (qS (qW [0,23,24,25,26] (e':=[(0,_),(23,_),(24,_),(25,_),(26,_)]) J ?_))
  refine qQ (qL (qC (.q 0 (.q 1 (.q 2 (.q 3 (.q 4 (.q 5 ((.l 6 [] ((.l 7 [] (.q 8 (.q 9 ((.l 10 [] (.done))))))))))))))) Kr ?_))
  refine qK J J J J (qK J J J J (qZ J J J J (qG (k:=5) J J J J υ'43 J ζ'40 J ?_)))
  refine qP (j:=5) J J J J α'40 Tk Az (by rfl) ?_
  refine qK J J J J (kJ J J J J (cW (us:=[_]) υ'40 ζ'22 J Tryz.zeroValue22 J J J) ?_)
  intro b180
  refine qV (cN (sz:=1) (enc:=encH) (xs:=B.W) J J J J J υ'40 Tryz.typeInfo22 J J J (by decide) Tk Tk (by first | rfl | omega | (simp;done) | (simp;omega)) (ys:=[((ya,yc,sAg m k t u):LstA Int)]) (cJ cB) (by rfl) (by first | rfl | omega) (sB) (encH_one) Om (by show _*24≤_;omega) ?_)
  intro ao181 cp181
  refine qV (qZ J J J J (qG (k:=5) J J J J υ'43 J ζ'40 J ?_))
  refine kR (j:=5) J J J J ζ'40 (us:=[_]) J J J Tk Az (by first | decide | (simp;done) | omega) ?_
  simp only [setL,List.set]
  refine qV (qS (qW [23,24,25,26] (e':=[(23,_),(24,_),(25,_),(26,_)]) J ?_))
  refine qQ (qL ?_)
  have hfl_:=sAg_len hm hN k t u
  refine qC (.q 0 (.q 1 ((.l 2 [] (.q 3 (.q 4 ((.l 5 [] (.q 6 (.q 7 (.q 8 (.q 9 (.done))))))))))))) Kr ?_
  refine qK J J J J (qK J J J J (cP (A:=own 1 encZ xa xc (sAg m k t u)) Tk ?_))
  refine own_fc fun f_17a f_17b f_17c=>?_
  refine cP (A:=own 1 encZ ya yc (sAg m k t u)) Tk ?_
  refine own_fc fun f_18a f_18b f_18c=>?_
  refine cL (fun _ h=>Bun.fold ((by (repeat ((with_reducible apply Z2);focus (first | (with_reducible (repeat (first | exact Z0 | apply Z1));done) | (repeat (first | exact Z0 | apply Z1)))));exact Z3:Takes _ [own 1 encZ xa xc (sAg m k t u),own 1 encZ ya yc (sAg m k t u)] _) _ h)) ?_
  have sp_19:=Hi.ints_same (sAg m k t u) (sAg m k t u) xa ya ((sAg m k t u).length) ((sAg m k t u).length) xc yc (Bun [own 1 encZ xa xc (sAg m k t u),own 1 encZ ya yc (sAg m k t u)]) Ln (rds_bun (List.mem_cons_self) (rC encZ_len (fun h=>(f_17b h).1) f_17c)) Ln (rds_bun (List.mem_cons_of_mem _ (List.mem_cons_self)) (rC encZ_len (fun h=>(f_18b h).1) f_18c)) Om
  refine qB J J J J J J Tryz.call14 (sp_19) Ts ?_
  rintro ⟨⟩ -
  try simp only [Ca,Na]
  refine cP (A:=Bun [own 1 encZ xa xc (sAg m k t u),own 1 encZ ya yc (sAg m k t u)]) Tk ?_
  refine s_bun ?_
  try simp only [Ca,Na]
  try simp only [Ca,Na]
  refine qV (kF 186 J (v':=.bool true) (by first | (rw [decide_eq_true rfl];done) | simp) ?_)
  refine qK J J J J (qK J J J J ?_)
  have sp_20:=Hi.num_spec (sAe m k t u)
  refine qB J J J J J J κ'7 (sp_20) Ts ?_
  rintro ⟨⟩ -
  try simp only [Ca,Na]
  refine qV (qK J J J J (qD J J J J J (cZ _ _ _ _) ?_))
  refine kF 191 J (v':=.bool true) (by first | (rw [decide_eq_true rfl];done) | simp) ?_
  refine kL J J J J J (qR J J J J (qS (qW [8] (e':=[(8,_)]) J ?_)))
  refine qQ (qJ (kH (qN (s_big_push (f:=owA 1 encZ) (L:=B.C) (x:=(xa,xc,sAg m k t u)) Ts ?_))))
  refine s_big_push (f:=owA 1 encZ) (L:=B.W) (x:=(ya,yc,sAg m k t u)) Ts ?_
  refine tab_fold (b:=b) (o0:=o0) (o1:=o1) (r0:=r0) (r1:=r1) (C:=(B.C++[(xa,xc,sAg m k t u)])) (W:=(B.W++[(ya,yc,sAg m k t u)])) (F:=B.F) (G:=B.G) (ca:=ao171) (cc:=cp171) (wa:=ao181) (wc:=cp181) (fa:=fa) (fc:=fc) (ga:=ga) (gc:=gc) Ts (by first | rfl | simp) (by first | rfl | simp) (by first | rfl | simp) (by first | rfl | simp) ?_
  refine cR J J (⟨(B.C++[(xa,xc,sAg m k t u)]),(B.W++[(ya,yc,sAg m k t u)]),B.F,B.G⟩) (by first | rfl | (first | rfl | (congr 1;done) | (congr 1 <;> first | rfl | omega | (simp;done) | (simp;omega)))) (by exact bok_c hB J (sAg_len hm hN k t u)) ?_
  exact Tf
 refine qH (kG (qQ (qL (qC (.q 0 (.q 1 (.q 2 ((.l 3 [] (.q 4 (.q 5 (.q 6 (.q 7 ((.l 8 [] ((.l 9 [] (.q 10 (.q 11 (.done)))))))))))))))) Kr ?_))))
 refine qK J J J J (qG (k:=6) J J J J υ'55 J ζ'3 J ?_)
 refine qP (j:=6) J J J J α'3 Tk Az (by rfl) ?_
 have sp_21:=own_to pa pc po poc o m pl N hN hm z
 refine qB J J J J J J Tryz.call54 (sp_21) Ts ?_
 rintro ⟨⟩ -
 try simp only [Ca,Na]
 refine qV (qK J J J J (kX J J J J J (kX J J J J J (kX J J J J J (cY J J J ω'52 (zs:=[.int .i64 0,.int .i64 0,.int .i64 0]) J ?_)))))
 intro b27
 refine qV (kR (j:=0) J J J J ζ'52 (us:=[_,_,_]) J J J Tk Az (by first | decide | (simp;done) | omega) ?_)
 simp only [setL,List.set]
 refine qV (qR J J J J (qR J J J J (qS (qW [3,5,27,28,29] (e':=[(3,_),(5,_),(27,_),(28,_),(29,_)]) J ?_))))
 refine qQ (qL (qC (.q 0 (.q 1 (.q 2 ((.l 3 [] (.q 4 (.q 5 (.q 6 (.q 7 ((.l 8 [] ((.l 9 [] (.q 10 (.q 11 (.done)))))))))))))))) Kr ?_))
 refine qK J J J J (qG (k:=6) J J J J υ'55 J ζ'3 J ?_)
 refine qP (j:=6) J J J J α'3 Tk Az (by rfl) ?_
 have sp_22:=ref_to ra rc r m pl N hN hm z
 refine qB J J J J J J Tryz.call55 (sp_22) Ts ?_
 rintro ⟨⟩ -
 try simp only [Ca,Na]
 refine qV (qK J J J J (kX J J J J J (kX J J J J J (kX J J J J J (cY J J J ω'52 (zs:=[.int .i64 0,.int .i64 0,.int .i64 0]) J ?_)))))
 intro b30
 refine qV (kR (j:=0) J J J J ζ'52 (us:=[_,_,_]) J J J Tk Az (by first | decide | (simp;done) | omega) ?_)
 simp only [setL,List.set]
 refine qV (qR J J J J (qR J J J J (qS (qW [27,28,29,30,31,32] (e':=[(27,_),(28,_),(29,_),(30,_),(31,_),(32,_)]) J ?_))))
 refine qQ (qL (qC (.q 0 (.q 1 (.q 2 (.q 3 (.q 4 (.q 5 (.q 6 (.q 7 (.q 8 (.q 9 (.q 10 (.q 11 (.q 12 (.q 13 (.done))))))))))))))) Kr ?_))
 refine kC J J J J α'52 ζ'52 Tk 0 (us:=[_,_,_]) Az J J ?_
 refine kC J J J J α'52 ζ'52 Tk 0 (us:=[_,_,_]) Az J J ?_
 refine q_eqS J J J J J Kr (eqc_struct υ'52 Kr (rL J α'50 J J (sF υ'50) (rL J α'3 J J (sF υ'3) (eqf_last J α'3 J J (sF υ'3))))) ?_
 refine kF 211 J (v':=.bool true) (by first | (rw [decide_eq_true rfl];done) | simp) ?_
 refine qK J J J J (qK J J J J (qK J J J J (qD J J J J J (cZ _ _ _ _) ?_)))
 refine kF 215 J (v':=.bool true) (by first | (rw [decide_eq_true rfl];done) | simp) ?_
 refine kL J J J J J (qK J J J J (qK J J J J (qK J J J J (q_eqb J J J J J υ'4 ?_))))
 refine kF 220 J (v':=.bool true) (by first | (rw [decide_eq_true rfl];done) | simp) ?_
 refine kL J J J J J (qR J J J J (qS (qW [8] (e':=[(8,_)]) J ?_)))
 refine qQ (qJ (cR J J (B) (by first | rfl | (first | rfl | (congr 1;done) | (congr 1 <;> first | rfl | omega | (simp;done) | (simp;omega)))) (by exact bok_more hB Om) ?_))
 exact Tf
end Go.Ab.Rh
set_option linter.unusedVariables false
set_option linter.unusedSimpArgs false
set_option maxRecDepth 100000
namespace Go.Ab.Rh
open Go Go.Proofs Go.Ab Go.Ab.Fe Go.Ab.Vc Go.Ab.Dj Go.Ab.Rv Go.Ab.Hi
def wmC (i k:Nat):Int:=-(i:Int) - 1000
def wmF (i k:Nat):T3:=(-(i:Int) - 1,0,0)
theorem app_set {α:Type} {A B:List α} {k:Nat} (q:α) (h:A.length=k) (hk:k < B.length):(A++B.drop k).set k q=(A++[q])++B.drop (k+1):=by
  subst h
  rw [List.set_append_right _ _ (Nat.le_refl _),Nat.sub_self,List.drop_eq_getElem_cons hk,List.set_cons_zero,List.append_assoc]
  rfl
theorem app_get {α:Type} {A B:List α} {k:Nat} (h:A.length=k):(A++B.drop k)[k]?=B[k]?:=by
  subst h
  rw [List.getElem?_append_right (Nat.le_refl _),Nat.sub_self,List.getElem?_drop];rfl
theorem mk2_all {α:Type} {f:Nat→Nat→α} {p n m k:Nat} (hf:∀ k,f p k=f p 0) (h:k < n+m):(mks (f p) n++mks (f p) m)[k]?=some (f p k):=by
  rcases Nat.lt_or_ge k n with h1 | h1
  · exact mk2_lo h1
  · rw [mk2_hi h1 h,hf k,hf (k - n)]
theorem apart_spec (b n:Nat) (o0 o1 r0 r1:Option Addr) (B:BK) (hB:BOk n B) (hn:n≤4000000):Spec Tryz.prog 9 [.pointer (some ⟨b,0,none⟩)] [tabR b o0 o1 r0 r1 B] (fun (_:Unit)=>.bool true) (fun _=>True) (fun _=>[]):=by
 refine kS (n:=331) Tryz.func9 J J J ?_
 intro Γ w0
 simp only [argE,Ca,Na,Zd,Nat.reduceAdd]
 obtain ⟨C,W,F,G⟩:=B
 obtain ⟨hmc,hmf,hbc,hbf,hnc0,hnf0⟩:=hB
 simp only at hmc hmf hbc hbf hnc0 hnf0
 have hwl:C.length=W.length:=by simpa using congrArg List.length hmc
 have hgl:F.length=G.length:=by simpa using congrArg List.length hmf
 refine qL (qC (.q 0 (.done)) Kr ?_)
 refine qR J J J J (qS (qQ (qL (qL (tab_open (b:=b) (B:=⟨C,W,F,G⟩) Tk fun ca cc wa wc fa fc ga gc=>?_)))))
 dsimp only
 refine qC (.q 0 (.done)) Kr ?_
 refine qR J J J J (qS (qQ (kV ?_)))
 refine sS (α:=Nat) (fun (i:Nat)=>i≤C.length) (fun (i:Nat)=>[(3,.int .i64 ((i:Nat):Int))]) (fun (i:Nat)=>[]) (fun (i:Nat)=>C.length - i) [0] (er:=[(0,_)]) J (0) ?_ (by exact ⟨rfl,trivial⟩) (by (try dsimp only);(try simp only [Ad,Zd]);(repeat ((with_reducible apply Z2);focus (first | (with_reducible (repeat (first | exact Z0 | apply Z1));done) | (repeat (first | exact Z0 | apply Z1)))));exact Z3) ?_
 · exact Nat.zero_le _
 rintro i hle_i
 try simp only [Ca,Na]
 refine qL (qL (qC (.q 0 (.q 1 (.q 2 (.q 3 (.q 4 (.q 5 (.q 6 (.done)))))))) Kr ?_))
 refine qK J J J J (qK J J J J (qZ J J J J (qG (k:=4) J J J J υ'43 J ζ'40 J ?_)))
 refine qP (j:=4) J J J J α'40 Tk Az (by rfl) ?_
 refine sR J J J J υ'40 ?_
 refine qD J J J J J (sK _ _ _ _) ?_
 refine qS (qW [0,3,25] (e':=[(0,_),(3,_),(25,_)]) J ?_)
 refine qQ ?_
 refine qF J (fun hlt=>?_) (fun hlt=>?_)
 ·
  obtain ⟨⟨a1,c1,x3⟩,hx⟩:=cX (l:=C) (i:=i) Om
  obtain ⟨⟨a2,c2,y3⟩,hy⟩:=cX (l:=W) (i:=i) Om
  have hxb:x3.length≤4000000000000:=hbc _ (List.mem_of_getElem? hx)
  obtain rfl:x3=y3:=same_at hmc hx hy
  refine s_owA (T:=C) Tk hx fun hp1 hp2=>?_
  refine s_owA (T:=W) Tk hy fun hq1 hq2=>?_
  refine qH (qQ (qL (kV (qL (kM J (.q 0 (.q 1 (.q 2 (.q 3 (.q 4 (.q 5 (.q 6 (.q 7 (.q 8 (.q 9 (.q 10 (.q 11 (.q 12 (.q 13 ((.l 14 [] (.q 15 (.done)))))))))))))))))) Kr ?_)))))
  refine qK J J J J (qZ J J J J (qG (k:=4) J J J J υ'43 J ζ'40 J ?_))
  refine qP (j:=4) J J J J α'40 Tk Az (by rfl) ?_
  refine qK J J J J (cK (sz:=0) (k:=i) (enc:=encH) (xs:=C) J J J J J υ'40 ζ'22 hx (by first | rfl | omega) Om Tk ?_)
  intro ib33 io33 ha33 hl33 hc33
  refine cQ (v:=(.slice a1 x3.length c1)) (j:=0) (k':=i) (enc:=encH) (off:=io33) J J J J α'22 ha33 sB hx Tk (by first | rfl | exact (Ad _).symm | omega) (by rfl) ?_
  refine qK J J J J (qZ J J J J (qG (k:=5) J J J J υ'43 J ζ'40 J ?_))
  refine qP (j:=5) J J J J α'40 Tk Az (by rfl) ?_
  refine qK J J J J (cK (sz:=0) (k:=i) (enc:=encH) (xs:=W) J J J J J υ'40 ζ'22 hy (by first | rfl | omega) Om Tk ?_)
  intro ib40 io40 ha40 hl40 hc40
  refine cQ (v:=(.slice a2 x3.length c2)) (j:=0) (k':=i) (enc:=encH) (off:=io40) J J J J α'22 ha40 sB hy Tk (by first | rfl | exact (Ad _).symm | omega) (by rfl) ?_
  refine cL (fun _ h=>Bun.fold ((by (repeat ((with_reducible apply Z2);focus (first | (with_reducible (repeat (first | exact Z0 | apply Z1));done) | (repeat (first | exact Z0 | apply Z1)))));exact Z3:Takes _ [bigS (owA 1 encZ) C,bigS (owA 1 encZ) W] _) _ h)) ?_
  have sp_1:=Hi.ints_same x3 x3 a1 a2 x3.length x3.length c1 c2 (Bun [bigS (owA 1 encZ) C,bigS (owA 1 encZ) W]) Ln (rds_bun (List.mem_cons_self) (rds_big (f:=owA 1 encZ) (List.mem_of_getElem? hx) (rC encZ_len hp1 hp2))) Ln (rds_bun (List.mem_cons_of_mem _ (List.mem_cons_self)) (rds_big (f:=owA 1 encZ) (List.mem_of_getElem? hy) (rC encZ_len hq1 hq2))) Om
  refine qB J J J J J J Tryz.call14 (sp_1) Ts ?_
  rintro ⟨⟩ -
  try simp only [Ca,Na]
  refine cP (A:=Bun [bigS (owA 1 encZ) C,bigS (owA 1 encZ) W]) Tk ?_
  refine s_bun ?_
  try simp only [Ca,Na]
  try simp only [Ca,Na]
  refine qV (kF 42 J (v':=.bool true) (by first | rfl | simp) ?_)
  refine rK J J J J ?_
  refine kF 43 J (v':=.bool false) J ?_
  refine qS (qW [0,3,43] (e':=[(0,_),(3,_),(43,_)]) J ?_)
  refine qQ (kN J ?_)
  refine qH (kG (qQ (qC (.q 0 (.q 1 (.q 2 (.done)))) Kr ?_)))
  refine qK J J J J (qD J J J J J (cF _ (by exact kY Om Om)) ?_)
  refine qR J J J J (qS (qQ ?_))
  refine kZ (x:=i) (i+1) ?_ ?_ ?_ ?_
  · exact by show i+1≤C.length;omega
  · show C.length - (i+1) < C.length - i;omega
  · exact ⟨rfl,rfl,trivial⟩
  · (try simp only [Ca,Na]);exact Tf
 refine cS (qY (qY (kK (qQ (qL (qL (qC (.q 0 (.done)) Kr ?_)))))))
 refine qR J J J J (qS (qQ (kV ?_)))
 refine sS (α:=Nat) (fun (i:Nat)=>i≤F.length) (fun (i:Nat)=>[(4,.int .i64 ((i:Nat):Int))]) (fun (i:Nat)=>[]) (fun (i:Nat)=>F.length - i) [0] (er:=[(0,_)]) J (0) ?_ (by exact ⟨rfl,trivial⟩) (by (try dsimp only);(try simp only [Ad,Zd]);(repeat ((with_reducible apply Z2);focus (first | (with_reducible (repeat (first | exact Z0 | apply Z1));done) | (repeat (first | exact Z0 | apply Z1)))));exact Z3) ?_
 · exact Nat.zero_le _
 rintro i hle_i
 try simp only [Ca,Na]
 refine qL (qL (qC (.q 0 (.q 1 (.q 2 (.q 3 (.q 4 (.q 5 (.q 6 (.done)))))))) Kr ?_))
 refine qK J J J J (qK J J J J (qZ J J J J (qG (k:=6) J J J J υ'43 J ζ'41 J ?_)))
 refine qP (j:=6) J J J J α'41 Tk Az (by rfl) ?_
 refine sR J J J J υ'41 ?_
 refine qD J J J J J (sK _ _ _ _) ?_
 refine qS (qW [0,4,50] (e':=[(0,_),(4,_),(50,_)]) J ?_)
 refine qQ ?_
 refine qF J (fun hlt=>?_) (fun hlt=>?_)
 ·
  obtain ⟨⟨a1,c1,x3⟩,hx⟩:=cX (l:=F) (i:=i) Om
  obtain ⟨⟨a2,c2,y3⟩,hy⟩:=cX (l:=G) (i:=i) Om
  have hxb:x3.length≤65535:=hbf _ (List.mem_of_getElem? hx)
  obtain rfl:x3=y3:=same_at hmf hx hy
  refine s_owA (T:=F) Tk hx fun hp1 hp2=>?_
  refine s_owA (T:=G) Tk hy fun hq1 hq2=>?_
  refine qH (qQ (qL (kV (qL (kM J (.q 0 (.q 1 (.q 2 (.q 3 (.q 4 (.q 5 (.q 6 (.q 7 (.q 8 (.q 9 (.q 10 (.q 11 (.q 12 (.q 13 ((.l 14 [] (.q 15 (.done)))))))))))))))))) Kr ?_)))))
  refine qK J J J J (qZ J J J J (qG (k:=6) J J J J υ'43 J ζ'41 J ?_))
  refine qP (j:=6) J J J J α'41 Tk Az (by rfl) ?_
  refine qK J J J J (cK (sz:=0) (k:=i) (enc:=encH) (xs:=F) J J J J J υ'41 ζ'62 hx (by first | rfl | omega) Om Tk ?_)
  intro ib58 io58 ha58 hl58 hc58
  refine cQ (v:=(.slice a1 x3.length c1)) (j:=0) (k':=i) (enc:=encH) (off:=io58) J J J J α'62 ha58 sB hx Tk (by first | rfl | exact (Ad _).symm | omega) (by rfl) ?_
  refine qK J J J J (qZ J J J J (qG (k:=7) J J J J υ'43 J ζ'41 J ?_))
  refine qP (j:=7) J J J J α'41 Tk Az (by rfl) ?_
  refine qK J J J J (cK (sz:=0) (k:=i) (enc:=encH) (xs:=G) J J J J J υ'41 ζ'62 hy (by first | rfl | omega) Om Tk ?_)
  intro ib65 io65 ha65 hl65 hc65
  refine cQ (v:=(.slice a2 x3.length c2)) (j:=0) (k':=i) (enc:=encH) (off:=io65) J J J J α'62 ha65 sB hy Tk (by first | rfl | exact (Ad _).symm | omega) (by rfl) ?_
  refine cL (fun _ h=>Bun.fold ((by (repeat ((with_reducible apply Z2);focus (first | (with_reducible (repeat (first | exact Z0 | apply Z1));done) | (repeat (first | exact Z0 | apply Z1)))));exact Z3:Takes _ [bigS (owA 3 enc3) F,bigS (owA 3 enc3) G] _) _ h)) ?_
  have sp_2:=Hi.pairs_same x3 x3 a1 a2 x3.length x3.length c1 c2 (Bun [bigS (owA 3 enc3) F,bigS (owA 3 enc3) G]) Ln (rds_bun (List.mem_cons_self) (rds_big (f:=owA 3 enc3) (List.mem_of_getElem? hx) (rC enc3_len hp1 hp2))) Ln (rds_bun (List.mem_cons_of_mem _ (List.mem_cons_self)) (rds_big (f:=owA 3 enc3) (List.mem_of_getElem? hy) (rC enc3_len hq1 hq2))) Om
  refine qB J J J J J J Tryz.call12 (sp_2) Ts ?_
  rintro ⟨⟩ -
  try simp only [Ca,Na]
  refine cP (A:=Bun [bigS (owA 3 enc3) F,bigS (owA 3 enc3) G]) Tk ?_
  refine s_bun ?_
  try simp only [Ca,Na]
  try simp only [Ca,Na]
  refine qV (kF 67 J (v':=.bool true) (by first | rfl | simp) ?_)
  refine rK J J J J ?_
  refine kF 68 J (v':=.bool false) J ?_
  refine qS (qW [0,4,68] (e':=[(0,_),(4,_),(68,_)]) J ?_)
  refine qQ (kN J ?_)
  refine qH (kG (qQ (qC (.q 0 (.q 1 (.q 2 (.done)))) Kr ?_)))
  refine qK J J J J (qD J J J J J (cF _ (by exact kY Om Om)) ?_)
  refine qR J J J J (qS (qQ ?_))
  refine kZ (x:=i) (i+1) ?_ ?_ ?_ ?_
  · exact by show i+1≤F.length;omega
  · show F.length - (i+1) < F.length - i;omega
  · exact ⟨rfl,rfl,trivial⟩
  · (try simp only [Ca,Na]);exact Tf
 refine cS (qY (qY (kK (qQ (qL (qL (qC (.q 0 (.done)) Kr ?_)))))))
 refine qR J J J J (qS (qQ (kV ?_)))
 refine sS (α:=Nat × List (LstA Int)) (fun (x_:Nat × List (LstA Int))=>match x_ with | (i,U)=>i≤C.length∧(WIA wmC C U i)) (fun (x_:Nat × List (LstA Int))=>match x_ with | (i,U)=>[(5,.int .i64 ((i:Nat):Int))]) (fun (x_:Nat × List (LstA Int))=>match x_ with | (i,U)=>[bigS (owA 1 encZ) U]) (fun (x_:Nat × List (LstA Int))=>match x_ with | (i,U)=>C.length - i) [0] (er:=[(0,_)]) J (0,C) ?_ (by exact ⟨rfl,trivial⟩) (by (try dsimp only);(try simp only [Ad,Zd]);(repeat ((with_reducible apply Z2);focus (first | (with_reducible (repeat (first | exact Z0 | apply Z1));done) | (repeat (first | exact Z0 | apply Z1)))));exact Z3) ?_
 · exact ⟨Nat.zero_le _,wia_start _ C⟩
 rintro ⟨i,U⟩ ⟨hle_i,hWc⟩
 try simp only [Ca,Na]
 refine qL (qL (qC (.q 0 (.q 1 (.q 2 (.q 3 (.q 4 (.q 5 (.q 6 (.done)))))))) Kr ?_))
 refine qK J J J J (qK J J J J (qZ J J J J (qG (k:=4) J J J J υ'43 J ζ'40 J ?_)))
 refine qP (j:=4) J J J J α'40 Tk Az (by rfl) ?_
 refine sR J J J J υ'40 ?_
 refine qD J J J J J (sK _ _ _ _) ?_
 refine qS (qW [0,5,75] (e':=[(0,_),(5,_),(75,_)]) J ?_)
 refine qQ ?_
 refine qF J (fun hlt=>?_) (fun hlt=>?_)
 ·
  obtain ⟨x,hx⟩:=cX (l:=C) (i:=i) Om
  obtain ⟨a2,c2,x3⟩:=x
  have hxb:x3.length≤4000000000000:=hbc _ (List.mem_of_getElem? hx)
  obtain ⟨y,hy⟩:=cX (l:=U) (i:=i) (by have:=hWc.len;omega)
  obtain ⟨a1,c1,y3⟩:=y
  obtain ⟨hs1,hs2,hs3,hs4⟩:=hWc.same i _ _ hx hy
  simp only at hs1 hs2 hs3 hs4
  subst hs1 hs2
  refine qH (qQ (qL (kV (qL (qC (.q 0 (.done)) Kr ?_)))))
  refine qR J J J J (qS (qQ (kV (s_big_take (f:=owA 1 encZ) (L:=U) Tk hy ?_))))
  refine sS (α:=Nat × List Int) (fun (x_:Nat × List Int)=>match x_ with | (k,l)=>k≤x3.length∧(l.length=x3.length)∧(∀ q,q < k→l[q]?=some (wmC i q))) (fun (x_:Nat × List Int)=>match x_ with | (k,l)=>[(6,.int .i64 ((k:Nat):Int))]) (fun (x_:Nat × List Int)=>match x_ with | (k,l)=>[own 1 encZ a1 c1 l]) (fun (x_:Nat × List Int)=>match x_ with | (k,l)=>x3.length - k) [0,5] (er:=[(0,_),(5,_)]) J (0,y3) ?_ (by exact ⟨rfl,trivial⟩) (by exact Takes.cons Take.here Takes.nil) ?_
  · exact ⟨Nat.zero_le _,hs3,fun q hq=>by omega⟩
  rintro ⟨k,l⟩ ⟨hle_k,hll,hlq⟩
  try simp only [Ca,Na]
  refine qL (qL (qC (.q 0 (.q 1 (.q 2 (.q 3 (.q 4 (.q 5 (.q 6 (.q 7 (.q 8 (.q 9 (.done))))))))))) Kr ?_))
  refine qK J J J J (qK J J J J (qZ J J J J (qG (k:=4) J J J J υ'43 J ζ'40 J ?_)))
  refine qP (j:=4) J J J J α'40 Tk Az (by rfl) ?_
  refine qK J J J J (cK (sz:=0) (k:=i) (enc:=encH) (xs:=C) J J J J J υ'40 ζ'22 hx (by first | rfl | omega) Om Tk ?_)
  intro ib84 io84 ha84 hl84 hc84
  refine cQ (v:=(.slice a1 x3.length c1)) (j:=0) (k':=i) (enc:=encH) (off:=io84) J J J J α'22 ha84 sB hx Tk (by first | rfl | exact (Ad _).symm | omega) (by rfl) ?_
  refine sR J J J J υ'22 ?_
  refine qD J J J J J (sK _ _ _ _) ?_
  refine qS (qW [0,5,6,87] (e':=[(0,_),(5,_),(6,_),(87,_)]) J ?_)
  refine qQ ?_
  refine qF J (fun hlk=>?_) (fun hlk=>?_)
  ·
   refine qH (qQ (qL (kV (qC (.q 0 (.q 1 (.q 2 (.q 3 (.q 4 (.q 5 (.q 6 (.q 7 (.q 8 (.q 9 (.q 10 (.q 11 ((.l 12 [] (.done))))))))))))))) Kr ?_))))
   refine qK J J J J (qZ J J J J (qG (k:=4) J J J J υ'43 J ζ'40 J ?_))
   refine qP (j:=4) J J J J α'40 Tk Az (by rfl) ?_
   refine qK J J J J (cK (sz:=0) (k:=i) (enc:=encH) (xs:=C) J J J J J υ'40 ζ'22 hx (by first | rfl | omega) Om Tk ?_)
   intro ib95 io95 ha95 hl95 hc95
   refine cQ (v:=(.slice a1 x3.length c1)) (j:=0) (k':=i) (enc:=encH) (off:=io95) J J J J α'22 ha95 sB hx Tk (by first | rfl | exact (Ad _).symm | omega) (by rfl) ?_
   refine qK J J J J (qK J J J J (q_neg J J J J ?_))
   refine kF 99 J (v':=.int .i64 (-((i:Nat):Int))) (by rw [wrap_fits (by exact kY Om Om)];congr 1;omega) ?_
   refine qD J J J J J (b_sub' _ (by exact kY Om Om)) ?_
   obtain ⟨e_3,he_3⟩:=cX (l:=l) (i:=k) (by first | omega | (simp;done) | (simp;omega))
   refine cK (sz:=0) (k:=k) (enc:=encZ) (xs:=l) J J J J J υ'22 ζ'3 he_3 (by first | rfl | omega) Om Tk ?_
   intro ib101 io101 ha101 hl101 hc101
   refine sC (j:=0) (k:=k) (q:=(wmC i k)) (enc:=encZ) (off:=io101) J J J J ζ'3 (us:=[_]) J J J ha101 encZ_len he_3 Tk (by first | rfl | exact (Ad _).symm | omega) (by first | decide | exact Nat.le_of_ble_eq_true J) (by rfl) ?_
   refine qV (qS (qW [0,5,6] (e':=[(0,_),(5,_),(6,_)]) J ?_))
   refine kG (qQ (qC (.q 0 (.q 1 (.q 2 (.done)))) Kr ?_))
   refine qK J J J J (qD J J J J J (cF _ (by exact kY Om Om)) ?_)
   refine qR J J J J (qS (qQ ?_))
   refine kZ (x:=(k,l)) ((k+1,l.set k (wmC i k))) ?_ ?_ ?_ ?_
   · try dsimp only
     exact ⟨by omega,by rw [List.length_set];exact hll,fun q hq=>by
         by_cases hqk:q=k
         · subst hqk;rw [List.getElem?_set_self Om]
         · rw [List.getElem?_set_ne (Ne.symm hqk)];exact hlq q Om⟩
   · show x3.length - (k+1) < x3.length - k;omega
   · exact ⟨rfl,rfl,rfl,trivial⟩
   · (try simp only [Ca,Na]);exact Tf
  refine cS (qY (qY (kK (kG (qQ (qC (.q 0 (.q 1 (.q 2 (.done)))) Kr ?_))))))
  refine qK J J J J (qD J J J J J (cF _ (by exact kY Om Om)) ?_)
  refine qR J J J J (qS (qW [0,5] (e':=[(0,_),(5,_)]) J ?_))
  refine qQ ?_
  obtain rfl:k=x3.length:=by omega
  refine s_big_put (f:=owA 1 encZ) (L:=U) (i:=i) (y:=(a1,c1,l)) Ts (List.getElem?_eq_some_iff.1 hy).1 ?_
  refine kZ (x:=(i,U)) ((i+1,U.set i (a1,c1,l))) ?_ ?_ ?_ ?_
  · try dsimp only
    exact ⟨by omega,wia_next hWc hx hy l (mks_of hll fun q hq=>hlq q Om)⟩
  · show C.length - (i+1) < C.length - i;omega
  · exact ⟨rfl,rfl,trivial⟩
  · (try simp only [Ca,Na]);exact Tf
 refine cS (qY (qY (kK (qQ (qL (qL ?_))))))
 obtain rfl:i=C.length:=by omega
 refine qC (.q 0 (.done)) Kr ?_
 refine qR J J J J (qS (qQ (kV ?_)))
 refine sS (α:=Nat × List (LstA T3)) (fun (x_:Nat × List (LstA T3))=>match x_ with | (i,UF)=>i≤F.length∧(WIA wmF F UF i)) (fun (x_:Nat × List (LstA T3))=>match x_ with | (i,UF)=>[(7,.int .i64 ((i:Nat):Int))]) (fun (x_:Nat × List (LstA T3))=>match x_ with | (i,UF)=>[bigS (owA 3 enc3) UF]) (fun (x_:Nat × List (LstA T3))=>match x_ with | (i,UF)=>F.length - i) [0] (er:=[(0,_)]) J (0,F) ?_ (by exact ⟨rfl,trivial⟩) (by (try dsimp only);(try simp only [Ad,Zd]);(repeat ((with_reducible apply Z2);focus (first | (with_reducible (repeat (first | exact Z0 | apply Z1));done) | (repeat (first | exact Z0 | apply Z1)))));exact Z3) ?_
 · exact ⟨Nat.zero_le _,wia_start _ F⟩
 rintro ⟨i,UF⟩ ⟨hle_i,hWf⟩
 try simp only [Ca,Na]
 refine qL (qL (qC (.q 0 (.q 1 (.q 2 (.q 3 (.q 4 (.q 5 (.q 6 (.done)))))))) Kr ?_))
 refine qK J J J J (qK J J J J (qZ J J J J (qG (k:=6) J J J J υ'43 J ζ'41 J ?_)))
 refine qP (j:=6) J J J J α'41 Tk Az (by rfl) ?_
 refine sR J J J J υ'41 ?_
 refine qD J J J J J (sK _ _ _ _) ?_
 refine qS (qW [0,7,108] (e':=[(0,_),(7,_),(108,_)]) J ?_)
 refine qQ ?_
 refine qF J (fun hlt=>?_) (fun hlt=>?_)
 ·
  obtain ⟨x,hx⟩:=cX (l:=F) (i:=i) Om
  obtain ⟨a2,c2,x3⟩:=x
  have hxb:x3.length≤65535:=hbf _ (List.mem_of_getElem? hx)
  obtain ⟨y,hy⟩:=cX (l:=UF) (i:=i) (by have:=hWf.len;omega)
  obtain ⟨a1,c1,y3⟩:=y
  obtain ⟨hs1,hs2,hs3,hs4⟩:=hWf.same i _ _ hx hy
  simp only at hs1 hs2 hs3 hs4
  subst hs1 hs2
  refine qH (qQ (qL (kV (qL (qC (.q 0 (.done)) Kr ?_)))))
  refine qR J J J J (qS (qQ (kV (s_big_take (f:=owA 3 enc3) (L:=UF) Tk hy ?_))))
  refine sS (α:=Nat × List T3) (fun (x_:Nat × List T3)=>match x_ with | (k,l)=>k≤x3.length∧(l.length=x3.length)∧(∀ q,q < k→l[q]?=some (wmF i q))) (fun (x_:Nat × List T3)=>match x_ with | (k,l)=>[(8,.int .i64 ((k:Nat):Int))]) (fun (x_:Nat × List T3)=>match x_ with | (k,l)=>[own 3 enc3 a1 c1 l]) (fun (x_:Nat × List T3)=>match x_ with | (k,l)=>x3.length - k) [0,7] (er:=[(0,_),(7,_)]) J (0,y3) ?_ (by exact ⟨rfl,trivial⟩) (by exact Takes.cons Take.here Takes.nil) ?_
  · exact ⟨Nat.zero_le _,hs3,fun q hq=>by omega⟩
  rintro ⟨k,l⟩ ⟨hle_k,hll,hlq⟩
  try simp only [Ca,Na]
  refine qL (qL (qC (.q 0 (.q 1 (.q 2 (.q 3 (.q 4 (.q 5 (.q 6 (.q 7 (.q 8 (.q 9 (.done))))))))))) Kr ?_))
  refine qK J J J J (qK J J J J (qZ J J J J (qG (k:=6) J J J J υ'43 J ζ'41 J ?_)))
  refine qP (j:=6) J J J J α'41 Tk Az (by rfl) ?_
  refine qK J J J J (cK (sz:=0) (k:=i) (enc:=encH) (xs:=F) J J J J J υ'41 ζ'62 hx (by first | rfl | omega) Om Tk ?_)
  intro ib117 io117 ha117 hl117 hc117
  refine cQ (v:=(.slice a1 x3.length c1)) (j:=0) (k':=i) (enc:=encH) (off:=io117) J J J J α'62 ha117 sB hx Tk (by first | rfl | exact (Ad _).symm | omega) (by rfl) ?_
  refine sR J J J J υ'62 ?_
  refine qD J J J J J (sK _ _ _ _) ?_
  refine qS (qW [0,7,8,120] (e':=[(0,_),(7,_),(8,_),(120,_)]) J ?_)
  refine qQ ?_
  refine qF J (fun hlk=>?_) (fun hlk=>?_)
  ·
   refine qH (qQ (qL (kV (qC (.q 0 (.q 1 (.q 2 (.q 3 (.q 4 (.q 5 (.q 6 (.q 7 (.q 8 (.q 9 (.q 10 (.q 11 (.q 12 ((.l 13 [] (.done)))))))))))))))) Kr ?_))))
   refine qK J J J J (qZ J J J J (qG (k:=6) J J J J υ'43 J ζ'41 J ?_))
   refine qP (j:=6) J J J J α'41 Tk Az (by rfl) ?_
   refine qK J J J J (cK (sz:=0) (k:=i) (enc:=encH) (xs:=F) J J J J J υ'41 ζ'62 hx (by first | rfl | omega) Om Tk ?_)
   intro ib128 io128 ha128 hl128 hc128
   refine cQ (v:=(.slice a1 x3.length c1)) (j:=0) (k':=i) (enc:=encH) (off:=io128) J J J J α'62 ha128 sB hx Tk (by first | rfl | exact (Ad _).symm | omega) (by rfl) ?_
   refine qK J J J J (qK J J J J (q_neg J J J J ?_))
   refine kF 132 J (v':=.int .i64 (-((i:Nat):Int))) (by rw [wrap_fits (by exact kY Om Om)];congr 1;omega) ?_
   refine qD J J J J J (b_sub' _ (by exact kY Om Om)) ?_
   refine kB J J J J (vs:=[_,_,_]) (kQ υ'65 ω'65 (ps:=[(0,1),(1,1),(2,1)]) ⟨rfl,ζ'3,rfl,ζ'3,rfl,ζ'3,trivial⟩ rfl) ?_
   obtain ⟨e_4,he_4⟩:=cX (l:=l) (i:=k) (by first | omega | (simp;done) | (simp;omega))
   refine cK (sz:=2) (k:=k) (enc:=enc3) (xs:=l) J J J J J υ'62 ζ'65 he_4 (by first | rfl | omega) Om Tk ?_
   intro ib135 io135 ha135 hl135 hc135
   refine sC (j:=0) (k:=k) (q:=(wmF i k)) (enc:=enc3) (off:=io135) J J J J ζ'65 (us:=[_,_,_]) J J J ha135 enc3_len he_4 Tk (by first | rfl | exact (Ad _).symm | omega) (by first | decide | exact Nat.le_of_ble_eq_true J) (by rfl) ?_
   refine qV (qS (qW [0,7,8] (e':=[(0,_),(7,_),(8,_)]) J ?_))
   refine kG (qQ (qC (.q 0 (.q 1 (.q 2 (.done)))) Kr ?_))
   refine qK J J J J (qD J J J J J (cF _ (by exact kY Om Om)) ?_)
   refine qR J J J J (qS (qQ ?_))
   refine kZ (x:=(k,l)) ((k+1,l.set k (wmF i k))) ?_ ?_ ?_ ?_
   · try dsimp only
     exact ⟨by omega,by rw [List.length_set];exact hll,fun q hq=>by
         by_cases hqk:q=k
         · subst hqk;rw [List.getElem?_set_self Om]
         · rw [List.getElem?_set_ne (Ne.symm hqk)];exact hlq q Om⟩
   · show x3.length - (k+1) < x3.length - k;omega
   · exact ⟨rfl,rfl,rfl,trivial⟩
   · (try simp only [Ca,Na]);exact Tf
  refine cS (qY (qY (kK (kG (qQ (qC (.q 0 (.q 1 (.q 2 (.done)))) Kr ?_))))))
  refine qK J J J J (qD J J J J J (cF _ (by exact kY Om Om)) ?_)
  refine qR J J J J (qS (qW [0,7] (e':=[(0,_),(7,_)]) J ?_))
  refine qQ ?_
  obtain rfl:k=x3.length:=by omega
  refine s_big_put (f:=owA 3 enc3) (L:=UF) (i:=i) (y:=(a1,c1,l)) Ts (List.getElem?_eq_some_iff.1 hy).1 ?_
  refine kZ (x:=(i,UF)) ((i+1,UF.set i (a1,c1,l))) ?_ ?_ ?_ ?_
  · try dsimp only
    exact ⟨by omega,wia_next hWf hx hy l (mks_of hll fun q hq=>hlq q Om)⟩
  · show F.length - (i+1) < F.length - i;omega
  · exact ⟨rfl,rfl,trivial⟩
  · (try simp only [Ca,Na]);exact Tf
 refine cS (qY (qY (kK (qQ (qL (qL ?_))))))
 obtain rfl:i=F.length:=by omega
 refine qC (.q 0 (.done)) Kr ?_
 refine qR J J J J (qS (qQ (kV (s_big_nil (f:=f2A 1 encZ) ?_))))
 refine sS (α:=Nat × List (PLA Int)) (fun (x_:Nat × List (PLA Int))=>match x_ with | (j,M)=>j≤C.length∧(MOA wmC wmC 70 C M j)) (fun (x_:Nat × List (PLA Int))=>match x_ with | (j,M)=>[(9,.int .i64 ((j:Nat):Int))]) (fun (x_:Nat × List (PLA Int))=>match x_ with | (j,M)=>[bigS (f2A 1 encZ) M,bigS (owA 1 encZ) (U.drop j),cells b 0 [.pointer o0,.pointer o1,.pointer r0,.pointer r1,.slice ca C.length cc,.slice wa W.length wc,.slice fa F.length fc,.slice ga G.length gc],own 1 encH ca cc C,own 1 encH wa wc (M.map (·.2)++W.drop j),own 1 encH fa fc F,own 1 encH ga gc G]) (fun (x_:Nat × List (PLA Int))=>match x_ with | (j,M)=>C.length - j) [0] (er:=[(0,_)]) J (0,[]) ?_ (by exact ⟨rfl,trivial⟩) (by (try dsimp only);simp only [List.drop_zero,List.map_nil,Na];(repeat ((with_reducible apply Z2);focus (first | (with_reducible (repeat (first | exact Z0 | apply Z1));done) | (repeat (first | exact Z0 | apply Z1)))));exact Z3) ?_
 · exact ⟨Nat.zero_le _,⟨rfl,fun j x p _ h=>by simp at h⟩⟩
 rintro ⟨j,M⟩ ⟨hle_j,hMc⟩
 try simp only [Ca,Na]
 have hml:=hMc.len
 have hmm:(M.map (·.2)).length=M.length:=List.length_map _
 refine qL (qL (qC (.q 0 (.q 1 (.q 2 (.q 3 (.q 4 (.q 5 (.q 6 (.done)))))))) Kr ?_))
 refine qK J J J J (qK J J J J (qZ J J J J (qG (k:=4) J J J J υ'43 J ζ'40 J ?_)))
 refine qP (j:=4) J J J J α'40 Tk Az (by rfl) ?_
 refine sR J J J J υ'40 ?_
 refine qD J J J J J (sK _ _ _ _) ?_
 refine qS (qW [0,9,142] (e':=[(0,_),(9,_),(142,_)]) J ?_)
 refine qQ ?_
 refine qF J (fun hlj=>?_) (fun hlj=>?_)
 ·
  obtain ⟨x,hx⟩:=cX (l:=C) (i:=j) Om
  obtain ⟨a2,c2,x3⟩:=x
  have hxb:x3.length≤4000000000000:=hbc _ (List.mem_of_getElem? hx)
  obtain ⟨y,hy⟩:=cX (l:=U) (i:=j) (by have:=hWc.len;omega)
  obtain ⟨a1,c1,y3⟩:=y
  obtain ⟨hs1,hs2,hs3,hs4⟩:=hWc.same j _ _ hx hy
  simp only at hs1 hs2 hs3 hs4
  subst hs1 hs2
  obtain rfl:=hs4 Om
  obtain ⟨wj,hwj_⟩:=cX (l:=W) (i:=j) Om
  have hwj:(M.map (·.2)++W.drop j)[j]?=some wj:=(app_get (hmm.trans hml)).trans hwj_
  refine qH (qQ (qL (kV (qL (qC (.q 0 (.q 1 (.q 2 (.q 3 (.q 4 (.q 5 (.q 6 (.q 7 (.done))))))))) Kr ?_)))))
  refine qK J J J J (qZ J J J J (qG (k:=4) J J J J υ'43 J ζ'40 J ?_))
  refine qP (j:=4) J J J J α'40 Tk Az (by rfl) ?_
  refine qK J J J J (cK (sz:=0) (k:=j) (enc:=encH) (xs:=C) J J J J J υ'40 ζ'22 hx (by first | rfl | omega) Om Tk ?_)
  intro ib150 io150 ha150 hl150 hc150
  refine cQ (v:=(.slice a1 x3.length c1)) (j:=0) (k':=j) (enc:=encH) (off:=io150) J J J J α'22 ha150 sB hx Tk (by first | rfl | exact (Ad _).symm | omega) (by rfl) ?_
  refine qR J J J J (qS (qW [0,9,10] (e':=[(0,_),(9,_),(10,_)]) J ?_))
  refine qQ (qL (qL (qC (.q 0 (.done)) Kr ?_)))
  refine qR J J J J (qS (qQ (kV ?_)))
  refine s_big_take (f:=owA 1 encZ) (L:=U.drop j) (i:=0) (x:=(a1,c1,mks (wmC j) x3.length)) Tk (by rw [List.getElem?_drop];exact hy) ?_
  refine cL (fun _ h=>app2_start h) ?_
  refine sS (α:=Nat × Option Addr × Nat) (fun (x_:Nat × Option Addr × Nat)=>match x_ with | (k,an,cn)=>k≤70∧True) (fun (x_:Nat × Option Addr × Nat)=>match x_ with | (k,an,cn)=>[(10,.slice an (x3.length+k) cn),(11,.int .i64 ((k:Nat):Int))]) (fun (x_:Nat × Option Addr × Nat)=>match x_ with | (k,an,cn)=>[app2 1 encZ a1 c1 (mks (wmC j) x3.length) an cn (mks (wmC j) x3.length++mks (wmC j) k)]) (fun (x_:Nat × Option Addr × Nat)=>match x_ with | (k,an,cn)=>70 - k) [0,9] (er:=[(0,_),(9,_)]) J (0,a1,c1) ?_ (by exact ⟨rfl,rfl,trivial⟩) (by dsimp only;rw [show mks (wmC j) 0=[] from rfl,List.append_nil];exact Takes.cons Take.here Takes.nil) ?_
  · exact ⟨Nat.zero_le _,trivial⟩
  rintro ⟨k,an,cn⟩ ⟨hle_k,hc_⟩
  try simp only [Ca,Na]
  refine qL (qL (qC (.q 0 (.q 1 (.done))) Kr ?_))
  refine qK J J J J (qD J J J J J (sK _ _ _ _) ?_)
  refine qS (qQ ?_)
  refine qF J (fun hlk=>?_) (fun hlk=>?_)
  ·
   refine qH (qQ (qL (kV (qC (.q 0 (.q 1 (.q 2 (.q 3 ((.l 4 [] ((.l 5 [] (.q 6 (.done)))))))))) Kr ?_))))
   refine qK J J J J (qK J J J J (q_neg J J J J ?_))
   refine kF 158 J (v':=.int .i64 (-((j:Nat):Int))) (by rw [wrap_fits (by exact kY Om Om)];congr 1;omega) ?_
   refine qD J J J J J (b_sub' _ (by exact kY Om Om)) ?_
   refine kJ J J J J (cW (us:=[_]) υ'22 ζ'3 J ω'3 J J J) ?_
   intro b160
   refine qV (l_appendA (sz:=1) J J J J J υ'22 τ'3 J J J (by decide) Tk Tk (by rw [List.length_append,mks_len,mks_len]) (ys:=[wmC j k]) (cJ cB) (by rfl) (by rfl) encZ_len encZ_one Om (by show _*8≤_;omega) (mks_take _ _ _) ?_)
   intro an2 cn2
   refine qV (qR J J J J (qS (qW [0,9,10,11] (e':=[(0,_),(9,_),(10,_),(11,_)]) J ?_)))
   refine kG (qQ (qC (.q 0 (.q 1 (.q 2 (.done)))) Kr ?_))
   refine qK J J J J (qD J J J J J (cF _ (by exact kY Om Om)) ?_)
   refine qR J J J J (qS (qQ ?_))
   rw [List.append_assoc,mks_next]
   refine kF 10 J (v':=.slice an2 (x3.length+(k+1)) cn2) (by first | rfl | (congr 1;done) | (congr 1 <;> first | rfl | omega | (simp;done) | (simp;omega))) ?_
   refine kZ (x:=(k,an,cn)) ((k+1,an2,cn2)) ?_ ?_ ?_ ?_
   · try dsimp only
     exact ⟨by omega,trivial⟩
   · show 70 - (k+1) < 70 - k;omega
   · exact ⟨rfl,rfl,rfl,rfl,trivial⟩
   · (try simp only [Ca,Na]);exact Tf
  refine cS (qY (qY (kK (qQ ?_))))
  obtain rfl:k=70:=by omega
  refine qC (.q 0 (.q 1 (.q 2 (.q 3 (.q 4 (.q 5 (.q 6 ((.l 7 [] (.done)))))))))) Kr ?_
  refine qK J J J J (qZ J J J J (qG (k:=5) J J J J υ'43 J ζ'40 J ?_))
  refine qP (j:=5) J J J J α'40 Tk Az (by rfl) ?_
  refine qK J J J J (qK J J J J (cK (sz:=0) (k:=j) (enc:=encH) (xs:=(M.map (·.2)++W.drop j)) J J J J J υ'40 ζ'22 hwj (by first | rfl | omega) Om Tk ?_))
  intro ib168 io168 ha168 hl168 hc168
  refine sC (j:=0) (k:=j) (q:=((an,cn,mks (wmC j) x3.length++mks (wmC j) 70):LstA Int)) (enc:=encH) (off:=io168) J J J J ζ'22 (us:=[_]) J J J ha168 sB hwj Tk (by first | rfl | exact (Ad _).symm | omega) (by first | decide | exact Nat.le_of_ble_eq_true J) (by simp [encH,setL,mks_len]) ?_
  refine qV (qS (qW [0,9] (e':=[(0,_),(9,_)]) J ?_))
  refine kG (qQ (qC (.q 0 (.q 1 (.q 2 (.done)))) Kr ?_))
  refine qK J J J J (qD J J J J J (cF _ (by exact kY Om Om)) ?_)
  refine qR J J J J (qS (qQ (s_big_push (f:=f2A 1 encZ) (L:=M) (x:=((a1,c1,mks (wmC j) x3.length),(an,cn,mks (wmC j) x3.length++mks (wmC j) 70))) Ts ?_)))
  rw [List.eraseIdx_zero,List.tail_drop,app_set ((an,cn,mks (wmC j) x3.length++mks (wmC j) 70):LstA Int) (hmm.trans hml) (show j < W.length by omega),show M.map (·.2)++[(an,cn,mks (wmC j) x3.length++mks (wmC j) 70)]=(M++[((a1,c1,mks (wmC j) x3.length),(an,cn,mks (wmC j) x3.length++mks (wmC j) 70))]).map (·.2) from by simp]
  refine kZ (x:=(j,M)) ((j+1,(M++[((a1,c1,mks (wmC j) x3.length),(an,cn,mks (wmC j) x3.length++mks (wmC j) 70))]))) ?_ ?_ ?_ ?_
  · try dsimp only
    exact ⟨by omega,moa_next hMc hx J J⟩
  · show C.length - (j+1) < C.length - j;omega
  · exact ⟨rfl,rfl,trivial⟩
  · (try simp only [Ca,Na]);exact Tf
 refine cS (qY (qY (kK (qQ (qL (qL ?_))))))
 obtain rfl:j=C.length:=by omega
 rw [show W.drop C.length=[] from List.drop_of_length_le Om,List.append_nil]
 refine qC (.q 0 (.done)) Kr ?_
 refine qR J J J J (qS (qQ (kV (s_big_nil (f:=f2A 3 enc3) ?_))))
 refine sS (α:=Nat × List (PLA T3)) (fun (x_:Nat × List (PLA T3))=>match x_ with | (j,MF)=>j≤F.length∧(MOA wmF wmF 70 F MF j)) (fun (x_:Nat × List (PLA T3))=>match x_ with | (j,MF)=>[(12,.int .i64 ((j:Nat):Int))]) (fun (x_:Nat × List (PLA T3))=>match x_ with | (j,MF)=>[bigS (f2A 3 enc3) MF,bigS (owA 3 enc3) (UF.drop j),cells b 0 [.pointer o0,.pointer o1,.pointer r0,.pointer r1,.slice ca C.length cc,.slice wa W.length wc,.slice fa F.length fc,.slice ga G.length gc],own 1 encH ca cc C,own 1 encH wa wc (M.map (·.2)),own 1 encH fa fc F,own 1 encH ga gc (MF.map (·.2)++G.drop j)]) (fun (x_:Nat × List (PLA T3))=>match x_ with | (j,MF)=>F.length - j) [0] (er:=[(0,_)]) J (0,[]) ?_ (by exact ⟨rfl,trivial⟩) (by (try dsimp only);simp only [List.drop_zero,List.map_nil,Na];(repeat ((with_reducible apply Z2);focus (first | (with_reducible (repeat (first | exact Z0 | apply Z1));done) | (repeat (first | exact Z0 | apply Z1)))));exact Z3) ?_
 · exact ⟨Nat.zero_le _,⟨rfl,fun j x p _ h=>by simp at h⟩⟩
 rintro ⟨j,MF⟩ ⟨hle_j,hMf⟩
 try simp only [Ca,Na]
 have hml:=hMf.len
 have hmm:(MF.map (·.2)).length=MF.length:=List.length_map _
 refine qL (qL (qC (.q 0 (.q 1 (.q 2 (.q 3 (.q 4 (.q 5 (.q 6 (.done)))))))) Kr ?_))
 refine qK J J J J (qK J J J J (qZ J J J J (qG (k:=6) J J J J υ'43 J ζ'41 J ?_)))
 refine qP (j:=6) J J J J α'41 Tk Az (by rfl) ?_
 refine sR J J J J υ'41 ?_
 refine qD J J J J J (sK _ _ _ _) ?_
 refine qS (qW [0,12,175] (e':=[(0,_),(12,_),(175,_)]) J ?_)
 refine qQ ?_
 refine qF J (fun hlj=>?_) (fun hlj=>?_)
 ·
  obtain ⟨x,hx⟩:=cX (l:=F) (i:=j) Om
  obtain ⟨a2,c2,x3⟩:=x
  have hxb:x3.length≤65535:=hbf _ (List.mem_of_getElem? hx)
  obtain ⟨y,hy⟩:=cX (l:=UF) (i:=j) (by have:=hWf.len;omega)
  obtain ⟨a1,c1,y3⟩:=y
  obtain ⟨hs1,hs2,hs3,hs4⟩:=hWf.same j _ _ hx hy
  simp only at hs1 hs2 hs3 hs4
  subst hs1 hs2
  obtain rfl:=hs4 Om
  obtain ⟨wj,hwj_⟩:=cX (l:=G) (i:=j) Om
  have hwj:(MF.map (·.2)++G.drop j)[j]?=some wj:=(app_get (hmm.trans hml)).trans hwj_
  refine qH (qQ (qL (kV (qL (qC (.q 0 (.q 1 (.q 2 (.q 3 (.q 4 (.q 5 (.q 6 (.q 7 (.done))))))))) Kr ?_)))))
  refine qK J J J J (qZ J J J J (qG (k:=6) J J J J υ'43 J ζ'41 J ?_))
  refine qP (j:=6) J J J J α'41 Tk Az (by rfl) ?_
  refine qK J J J J (cK (sz:=0) (k:=j) (enc:=encH) (xs:=F) J J J J J υ'41 ζ'62 hx (by first | rfl | omega) Om Tk ?_)
  intro ib183 io183 ha183 hl183 hc183
  refine cQ (v:=(.slice a1 x3.length c1)) (j:=0) (k':=j) (enc:=encH) (off:=io183) J J J J α'62 ha183 sB hx Tk (by first | rfl | exact (Ad _).symm | omega) (by rfl) ?_
  refine qR J J J J (qS (qW [0,12,13] (e':=[(0,_),(12,_),(13,_)]) J ?_))
  refine qQ (qL (qL (qC (.q 0 (.done)) Kr ?_)))
  refine qR J J J J (qS (qQ (kV ?_)))
  refine s_big_take (f:=owA 3 enc3) (L:=UF.drop j) (i:=0) (x:=(a1,c1,mks (wmF j) x3.length)) Tk (by rw [List.getElem?_drop];exact hy) ?_
  refine cL (fun _ h=>app2_start h) ?_
  refine sS (α:=Nat × Option Addr × Nat) (fun (x_:Nat × Option Addr × Nat)=>match x_ with | (k,an,cn)=>k≤70∧True) (fun (x_:Nat × Option Addr × Nat)=>match x_ with | (k,an,cn)=>[(13,.slice an (x3.length+k) cn),(14,.int .i64 ((k:Nat):Int))]) (fun (x_:Nat × Option Addr × Nat)=>match x_ with | (k,an,cn)=>[app2 3 enc3 a1 c1 (mks (wmF j) x3.length) an cn (mks (wmF j) x3.length++mks (wmF j) k)]) (fun (x_:Nat × Option Addr × Nat)=>match x_ with | (k,an,cn)=>70 - k) [0,12] (er:=[(0,_),(12,_)]) J (0,a1,c1) ?_ (by exact ⟨rfl,rfl,trivial⟩) (by dsimp only;rw [show mks (wmF j) 0=[] from rfl,List.append_nil];exact Takes.cons Take.here Takes.nil) ?_
  · exact ⟨Nat.zero_le _,trivial⟩
  rintro ⟨k,an,cn⟩ ⟨hle_k,hc_⟩
  try simp only [Ca,Na]
  refine qL (qL (qC (.q 0 (.q 1 (.done))) Kr ?_))
  refine qK J J J J (qD J J J J J (sK _ _ _ _) ?_)
  refine qS (qQ ?_)
  refine qF J (fun hlk=>?_) (fun hlk=>?_)
  ·
   refine qH (qQ (qL (kV (qC (.q 0 (.q 1 (.q 2 (.q 3 (.q 4 ((.l 5 [] ((.l 6 [] (.q 7 (.done))))))))))) Kr ?_))))
   refine qK J J J J (qK J J J J (q_neg J J J J ?_))
   refine kF 191 J (v':=.int .i64 (-((j:Nat):Int))) (by rw [wrap_fits (by exact kY Om Om)];congr 1;omega) ?_
   refine qD J J J J J (b_sub' _ (by exact kY Om Om)) ?_
   refine kB J J J J (vs:=[_,_,_]) (kQ υ'65 ω'65 (ps:=[(0,1),(1,1),(2,1)]) ⟨rfl,ζ'3,rfl,ζ'3,rfl,ζ'3,trivial⟩ rfl) ?_
   refine kJ J J J J (cW (us:=[_,_,_]) υ'62 ζ'65 J ω'65 J J J) ?_
   intro b194
   refine qV (l_appendA (sz:=3) J J J J J υ'62 τ'65 J J J (by decide) Tk Tk (by rw [List.length_append,mks_len,mks_len]) (ys:=[wmF j k]) (cJ cB) (by rfl) (by rfl) enc3_len enc3_one Om (by show _*24≤_;omega) (mks_take _ _ _) ?_)
   intro an2 cn2
   refine qV (qR J J J J (qS (qW [0,12,13,14] (e':=[(0,_),(12,_),(13,_),(14,_)]) J ?_)))
   refine kG (qQ (qC (.q 0 (.q 1 (.q 2 (.done)))) Kr ?_))
   refine qK J J J J (qD J J J J J (cF _ (by exact kY Om Om)) ?_)
   refine qR J J J J (qS (qQ ?_))
   rw [List.append_assoc,mks_next]
   refine kF 13 J (v':=.slice an2 (x3.length+(k+1)) cn2) (by first | rfl | (congr 1;done) | (congr 1 <;> first | rfl | omega | (simp;done) | (simp;omega))) ?_
   refine kZ (x:=(k,an,cn)) ((k+1,an2,cn2)) ?_ ?_ ?_ ?_
   · try dsimp only
     exact ⟨by omega,trivial⟩
   · show 70 - (k+1) < 70 - k;omega
   · exact ⟨rfl,rfl,rfl,rfl,trivial⟩
   · (try simp only [Ca,Na]);exact Tf
  refine cS (qY (qY (kK (qQ ?_))))
  obtain rfl:k=70:=by omega
  refine qC (.q 0 (.q 1 (.q 2 (.q 3 (.q 4 (.q 5 (.q 6 ((.l 7 [] (.done)))))))))) Kr ?_
  refine qK J J J J (qZ J J J J (qG (k:=7) J J J J υ'43 J ζ'41 J ?_))
  refine qP (j:=7) J J J J α'41 Tk Az (by rfl) ?_
  refine qK J J J J (qK J J J J (cK (sz:=0) (k:=j) (enc:=encH) (xs:=(MF.map (·.2)++G.drop j)) J J J J J υ'41 ζ'62 hwj (by first | rfl | omega) Om Tk ?_))
  intro ib202 io202 ha202 hl202 hc202
  refine sC (j:=0) (k:=j) (q:=((an,cn,mks (wmF j) x3.length++mks (wmF j) 70):LstA T3)) (enc:=encH) (off:=io202) J J J J ζ'62 (us:=[_]) J J J ha202 sB hwj Tk (by first | rfl | exact (Ad _).symm | omega) (by first | decide | exact Nat.le_of_ble_eq_true J) (by simp [encH,setL,mks_len]) ?_
  refine qV (qS (qW [0,12] (e':=[(0,_),(12,_)]) J ?_))
  refine kG (qQ (qC (.q 0 (.q 1 (.q 2 (.done)))) Kr ?_))
  refine qK J J J J (qD J J J J J (cF _ (by exact kY Om Om)) ?_)
  refine qR J J J J (qS (qQ (s_big_push (f:=f2A 3 enc3) (L:=MF) (x:=((a1,c1,mks (wmF j) x3.length),(an,cn,mks (wmF j) x3.length++mks (wmF j) 70))) Ts ?_)))
  rw [List.eraseIdx_zero,List.tail_drop,app_set ((an,cn,mks (wmF j) x3.length++mks (wmF j) 70):LstA T3) (hmm.trans hml) (show j < G.length by omega),show MF.map (·.2)++[(an,cn,mks (wmF j) x3.length++mks (wmF j) 70)]=(MF++[((a1,c1,mks (wmF j) x3.length),(an,cn,mks (wmF j) x3.length++mks (wmF j) 70))]).map (·.2) from by simp]
  refine kZ (x:=(j,MF)) ((j+1,(MF++[((a1,c1,mks (wmF j) x3.length),(an,cn,mks (wmF j) x3.length++mks (wmF j) 70))]))) ?_ ?_ ?_ ?_
  · try dsimp only
    exact ⟨by omega,moa_next hMf hx J J⟩
  · show F.length - (j+1) < F.length - j;omega
  · exact ⟨rfl,rfl,trivial⟩
  · (try simp only [Ca,Na]);exact Tf
 refine cS (qY (qY (kK (qQ (qL (qL ?_))))))
 obtain rfl:j=F.length:=by omega
 rw [show G.drop F.length=[] from List.drop_of_length_le Om,List.append_nil]
 refine qC (.q 0 (.done)) Kr ?_
 refine qR J J J J (qS (qQ (kV ?_)))
 refine sS (α:=Nat) (fun (p:Nat)=>p≤C.length) (fun (p:Nat)=>[(15,.int .i64 ((p:Nat):Int))]) (fun (p:Nat)=>[]) (fun (p:Nat)=>C.length - p) [0] (er:=[(0,_)]) J (0) ?_ (by exact ⟨rfl,trivial⟩) (by (try dsimp only);(try simp only [Ad,Zd]);(repeat ((with_reducible apply Z2);focus (first | (with_reducible (repeat (first | exact Z0 | apply Z1));done) | (repeat (first | exact Z0 | apply Z1)))));exact Z3) ?_
 · exact Nat.zero_le _
 rintro p hle_p
 try simp only [Ca,Na]
 have hml:=hMc.len
 have hmm:(M.map (·.2)).length=M.length:=List.length_map _
 refine qL (qL (qC (.q 0 (.q 1 (.q 2 (.q 3 (.q 4 (.q 5 (.q 6 (.done)))))))) Kr ?_))
 refine qK J J J J (qK J J J J (qZ J J J J (qG (k:=4) J J J J υ'43 J ζ'40 J ?_)))
 refine qP (j:=4) J J J J α'40 Tk Az (by rfl) ?_
 refine sR J J J J υ'40 ?_
 refine qD J J J J J (sK _ _ _ _) ?_
 refine qS (qW [0,15,209] (e':=[(0,_),(15,_),(209,_)]) J ?_)
 refine qQ ?_
 refine qF J (fun hlp=>?_) (fun hlp=>?_)
 ·
  try rw [List.length_map] at hlp
  obtain ⟨x,hx⟩:=cX (l:=C) (i:=p) Om
  obtain ⟨y,hy⟩:=cX (l:=M) (i:=p) Om
  obtain ⟨a1,c1,x3⟩:=x
  obtain ⟨⟨b1,b2,b3⟩,⟨an,cn,l2⟩⟩:=y
  obtain ⟨hs1,hs2⟩:=hMc.at_ p _ _ hx hy
  simp only [Prod.mk.injEq] at hs1 hs2
  obtain ⟨rfl,rfl,rfl⟩:=hs1
  subst hs2
  have hxb:x3.length≤4000000000000:=hbc _ (List.mem_of_getElem? hx)
  have hyM:=List.mem_of_getElem? hy
  have hyp:(M.map (·.2))[p]?=some (an,cn,(mks (wmC p) x3.length++mks (wmC p) 70)):=by rw [List.getElem?_map,hy];rfl
  have hll:(mks (wmC p) x3.length++mks (wmC p) 70).length=x3.length+70:=by rw [List.length_append,mks_len,mks_len]
  refine s_f2A (M:=M) Tk hy (mks_take _ _ _) fun hfx=>?_
  refine qH (qQ (qL (kV (qL (qC (.q 0 (.done)) Kr ?_)))))
  refine qR J J J J (qS (qQ (kV ?_)))
  refine sS (α:=Nat) (fun (k:Nat)=>k≤x3.length+70) (fun (k:Nat)=>[(16,.int .i64 ((k:Nat):Int))]) (fun (k:Nat)=>[]) (fun (k:Nat)=>x3.length+70 - k) [0,15] (er:=[(0,_),(15,_)]) J (0) ?_ (by exact ⟨rfl,trivial⟩) (by (try dsimp only);(try simp only [Ad,Zd]);(repeat ((with_reducible apply Z2);focus (first | (with_reducible (repeat (first | exact Z0 | apply Z1));done) | (repeat (first | exact Z0 | apply Z1)))));exact Z3) ?_
  · exact Nat.zero_le _
  rintro k hle_k
  try simp only [Ca,Na]
  refine qL (qL (qC (.q 0 (.q 1 (.q 2 (.q 3 (.q 4 (.q 5 (.q 6 (.q 7 (.q 8 (.q 9 (.done))))))))))) Kr ?_))
  refine qK J J J J (qK J J J J (qZ J J J J (qG (k:=5) J J J J υ'43 J ζ'40 J ?_)))
  refine qP (j:=5) J J J J α'40 Tk Az (by rfl) ?_
  refine qK J J J J (cK (sz:=0) (k:=p) (enc:=encH) (xs:=(M.map (·.2))) J J J J J υ'40 ζ'22 hyp (by first | rfl | omega) Om Tk ?_)
  intro ib218 io218 ha218 hl218 hc218
  refine cQ (v:=(.slice an ((mks (wmC p) x3.length++mks (wmC p) 70).length) cn)) (j:=0) (k':=p) (enc:=encH) (off:=io218) J J J J α'22 ha218 sB hyp Tk (by first | rfl | exact (Ad _).symm | omega) (by rfl) ?_
  refine sR J J J J υ'22 ?_
  refine qD J J J J J (sK _ _ _ _) ?_
  refine qS (qW [0,15,16,221] (e':=[(0,_),(15,_),(16,_),(221,_)]) J ?_)
  refine qQ ?_
  refine qF J (fun hlk=>?_) (fun hlk=>?_)
  ·
   have hlk2:k < x3.length+70:=by
     have h1:=hlk
     omega
   refine qH (qQ (qL (kV (qL (qC (.q 0 (.q 1 (.q 2 (.q 3 (.q 4 (.q 5 (.q 6 (.q 7 (.q 8 (.q 9 (.q 10 (.q 11 (.q 12 (.q 13 (.q 14 (.q 15 (.q 16 (.q 17 (.q 18 (.q 19 (.q 20 (.q 21 (.q 22 (.q 23 (.q 24 (.q 25 (.q 26 (.q 27 (.q 28 (.q 29 (.q 30 (.q 31 (.q 32 (.q 33 (.q 34 (.q 35 (.q 36 (.q 37 (.q 38 (.q 39 (.q 40 (.q 41 (.done))))))))))))))))))))))))))))))))))))))))))) Kr ?_)))))
   refine qK J J J J (qZ J J J J (qG (k:=5) J J J J υ'43 J ζ'40 J ?_))
   refine qP (j:=5) J J J J α'40 Tk Az (by rfl) ?_
   refine qK J J J J (cK (sz:=0) (k:=p) (enc:=encH) (xs:=(M.map (·.2))) J J J J J υ'40 ζ'22 hyp (by first | rfl | omega) Om Tk ?_)
   intro ib229 io229 ha229 hl229 hc229
   refine cQ (v:=(.slice an ((mks (wmC p) x3.length++mks (wmC p) 70).length) cn)) (j:=0) (k':=p) (enc:=encH) (off:=io229) J J J J α'22 ha229 sB hyp Tk (by first | rfl | exact (Ad _).symm | omega) (by rfl) ?_
   refine qK J J J J (q_idxR (sz:=0) (k:=k) J J J J J υ'22 ζ'3 (rds_big (f:=f2A 1 encZ) hyM (rds_app2_l encZ_len hfx.1.1 hfx.1.2)) (mk2_all (f:=wmC) (p:=p) (n:=x3.length) (m:=70) (k:=k) (fun _=>rfl) hlk2) encZ_len (by first | rfl | omega) Om ?_)
   intro ib232 io232 _ hd232
   refine q_load J J J J α'3 Tk (hd232 0 (.int .i64 (wmC p k)) J) ?_
   refine qK J J J J (q_neg J J J J ?_)
   refine kF 235 J (v':=.int .i64 (-((p:Nat):Int))) (by rw [wrap_fits (by exact kY Om Om)];congr 1;omega) ?_
   refine qD J J J J J (b_sub' _ (by exact kY Om Om)) ?_
   refine qD J J J J J (b_neq _ _ _ _) ?_
   refine kF 237 J (v':=.bool false) (by refine congrArg Value.bool (decide_eq_false ?_);intro h9;exact h9 (by unfold wmC;first | omega | (dsimp only;omega))) ?_
   refine qK J J J J (qK J J J J (qK J J J J (qZ J J J J (qG (k:=4) J J J J υ'43 J ζ'40 J ?_))))
   refine qP (j:=4) J J J J α'40 Tk Az (by rfl) ?_
   refine qK J J J J (cK (sz:=0) (k:=p) (enc:=encH) (xs:=C) J J J J J υ'40 ζ'22 hx (by first | rfl | omega) Om Tk ?_)
   intro ib245 io245 ha245 hl245 hc245
   refine cQ (v:=(.slice b1 x3.length b2)) (j:=0) (k':=p) (enc:=encH) (off:=io245) J J J J α'22 ha245 sB hx Tk (by first | rfl | exact (Ad _).symm | omega) (by rfl) ?_
   refine sR J J J J υ'22 ?_
   refine qD J J J J J (sK _ _ _ _) ?_
   refine qK J J J J ?_
   refine cV 249 J (fun hkn=>?_) (fun hkn=>?_)
   ·
    refine qK J J J J (qZ J J J J (qG (k:=4) J J J J υ'43 J ζ'40 J ?_))
    refine qP (j:=4) J J J J α'40 Tk Az (by rfl) ?_
    refine qK J J J J (cK (sz:=0) (k:=p) (enc:=encH) (xs:=C) J J J J J υ'40 ζ'22 hx (by first | rfl | omega) Om Tk ?_)
    intro ib255 io255 ha255 hl255 hc255
    refine cQ (v:=(.slice b1 x3.length b2)) (j:=0) (k':=p) (enc:=encH) (off:=io255) J J J J α'22 ha255 sB hx Tk (by first | rfl | exact (Ad _).symm | omega) (by rfl) ?_
    refine qK J J J J (q_idxR (sz:=0) (k:=k) J J J J J υ'22 ζ'3 (rds_big (f:=f2A 1 encZ) hyM (rds_app2_r encZ_len (mks_take _ _ _) hfx.2.1 hfx.2.2)) (mks_get (wmC p) (n:=x3.length) (k:=k) Om) encZ_len (by first | rfl | omega) Om ?_)
    intro ib258 io258 _ hd258
    refine q_load J J J J α'3 Tk (hd258 0 (.int .i64 (wmC p k)) J) ?_
    refine qK J J J J (q_neg J J J J ?_)
    refine kF 261 J (v':=.int .i64 (-((p:Nat):Int))) (by rw [wrap_fits (by exact kY Om Om)];congr 1;omega) ?_
    refine qD J J J J J (b_sub' _ (by exact kY Om Om)) ?_
    refine qD J J J J J (b_neq _ _ _ _) ?_
    refine kF 263 J (v':=.bool false) (by refine congrArg Value.bool (decide_eq_false ?_);intro h9;exact h9 (by unfold wmC;first | omega | (dsimp only;omega))) ?_
    refine kL J J J J J (kD J J J J J (qS (qW [0,15,16,239,240,241,242,243,244,245,246,247,248,249,250,251,252,253,254,255,256,257,258,259,260,261,262,263,264,265] (e':=[(0,_),(15,_),(16,_),(239,_),(240,_),(241,_),(242,_),(243,_),(244,_),(245,_),(246,_),(247,_),(248,_),(249,_),(250,_),(251,_),(252,_),(253,_),(254,_),(255,_),(256,_),(257,_),(258,_),(259,_),(260,_),(261,_),(262,_),(263,_),(264,_),(265,_)]) J ?_)))
    refine qQ (kN J ?_)
    refine qH (kG (qQ (qC (.q 0 (.q 1 (.q 2 (.done)))) Kr ?_)))
    refine qK J J J J (qD J J J J J (cF _ (by exact kY Om Om)) ?_)
    refine qR J J J J (qS (qQ ?_))
    refine kZ (x:=k) (k+1) ?_ ?_ ?_ ?_
    · exact by show k+1≤x3.length+70;omega
    · show x3.length+70 - (k+1) < x3.length+70 - k;omega
    · exact ⟨rfl,rfl,rfl,trivial⟩
    · (try simp only [Ca,Na]);exact Tf
   refine qX J J J J (qX J J J J (qX J J J J (qX J J J J (qX J J J J (qX J J J J (qX J J J J (qX J J J J (qX J J J J ?_))))))))
   refine qX J J J J (qX J J J J (qX J J J J (qX J J J J (qX J J J J (kD J J J J J (kD J J J J J (qS (qW [0,15,16,239,240,241,242,243,244,245,246,247,248,249,250,251,252,253,254,255,256,257,258,259,260,261,262,263,264,265] (e':=[(0,_),(15,_),(16,_),(239,_),(240,_),(241,_),(242,_),(243,_),(244,_),(245,_),(246,_),(247,_),(248,_),(249,_),(250,_),(251,_),(252,_),(253,_),(254,_),(255,_),(256,_),(257,_),(258,_),(259,_),(260,_),(261,_),(262,_),(263,_),(264,_),(265,_)]) J ?_))))))))
   refine qQ (kN J ?_)
   refine qH (kG (qQ (qC (.q 0 (.q 1 (.q 2 (.done)))) Kr ?_)))
   refine qK J J J J (qD J J J J J (cF _ (by exact kY Om Om)) ?_)
   refine qR J J J J (qS (qQ ?_))
   refine kZ (x:=k) (k+1) ?_ ?_ ?_ ?_
   · exact by show k+1≤x3.length+70;omega
   · show x3.length+70 - (k+1) < x3.length+70 - k;omega
   · exact ⟨rfl,rfl,rfl,trivial⟩
   · (try simp only [Ca,Na]);exact Tf
  refine cS (qY (qY (kK (kG (qQ (qC (.q 0 (.q 1 (.q 2 (.done)))) Kr ?_))))))
  refine qK J J J J (qD J J J J J (cF _ (by exact kY Om Om)) ?_)
  refine qR J J J J (qS (qW [0,15] (e':=[(0,_),(15,_)]) J ?_))
  refine qQ ?_
  refine kZ (x:=p) (p+1) ?_ ?_ ?_ ?_
  · exact by show p+1≤C.length;omega
  · show C.length - (p+1) < C.length - p;omega
  · exact ⟨rfl,rfl,trivial⟩
  · (try simp only [Ca,Na]);exact Tf
 refine cS (qY (qY (kK (qQ (qL (qL (qC (.q 0 (.done)) Kr ?_)))))))
 refine qR J J J J (qS (qQ (kV ?_)))
 refine sS (α:=Nat) (fun (p:Nat)=>p≤F.length) (fun (p:Nat)=>[(17,.int .i64 ((p:Nat):Int))]) (fun (p:Nat)=>[]) (fun (p:Nat)=>F.length - p) [0] (er:=[(0,_)]) J (0) ?_ (by exact ⟨rfl,trivial⟩) (by (try dsimp only);(try simp only [Ad,Zd]);(repeat ((with_reducible apply Z2);focus (first | (with_reducible (repeat (first | exact Z0 | apply Z1));done) | (repeat (first | exact Z0 | apply Z1)))));exact Z3) ?_
 · exact Nat.zero_le _
 rintro p hle_p
 try simp only [Ca,Na]
 have hml:=hMf.len
 have hmm:(MF.map (·.2)).length=MF.length:=List.length_map _
 refine qL (qL (qC (.q 0 (.q 1 (.q 2 (.q 3 (.q 4 (.q 5 (.q 6 (.done)))))))) Kr ?_))
 refine qK J J J J (qK J J J J (qZ J J J J (qG (k:=6) J J J J υ'43 J ζ'41 J ?_)))
 refine qP (j:=6) J J J J α'41 Tk Az (by rfl) ?_
 refine sR J J J J υ'41 ?_
 refine qD J J J J J (sK _ _ _ _) ?_
 refine qS (qW [0,17,272] (e':=[(0,_),(17,_),(272,_)]) J ?_)
 refine qQ ?_
 refine qF J (fun hlp=>?_) (fun hlp=>?_)
 ·
  try rw [List.length_map] at hlp
  obtain ⟨x,hx⟩:=cX (l:=F) (i:=p) Om
  obtain ⟨y,hy⟩:=cX (l:=MF) (i:=p) Om
  obtain ⟨a1,c1,x3⟩:=x
  obtain ⟨⟨b1,b2,b3⟩,⟨an,cn,l2⟩⟩:=y
  obtain ⟨hs1,hs2⟩:=hMf.at_ p _ _ hx hy
  simp only [Prod.mk.injEq] at hs1 hs2
  obtain ⟨rfl,rfl,rfl⟩:=hs1
  subst hs2
  have hxb:x3.length≤65535:=hbf _ (List.mem_of_getElem? hx)
  have hyM:=List.mem_of_getElem? hy
  have hyp:(MF.map (·.2))[p]?=some (an,cn,(mks (wmF p) x3.length++mks (wmF p) 70)):=by rw [List.getElem?_map,hy];rfl
  have hll:(mks (wmF p) x3.length++mks (wmF p) 70).length=x3.length+70:=by rw [List.length_append,mks_len,mks_len]
  refine s_f2A (M:=MF) Tk hy (mks_take _ _ _) fun hfx=>?_
  refine qH (qQ (qL (kV (qL (qC (.q 0 (.done)) Kr ?_)))))
  refine qR J J J J (qS (qQ (kV ?_)))
  refine sS (α:=Nat) (fun (k:Nat)=>k≤x3.length+70) (fun (k:Nat)=>[(18,.int .i64 ((k:Nat):Int))]) (fun (k:Nat)=>[]) (fun (k:Nat)=>x3.length+70 - k) [0,17] (er:=[(0,_),(17,_)]) J (0) ?_ (by exact ⟨rfl,trivial⟩) (by (try dsimp only);(try simp only [Ad,Zd]);(repeat ((with_reducible apply Z2);focus (first | (with_reducible (repeat (first | exact Z0 | apply Z1));done) | (repeat (first | exact Z0 | apply Z1)))));exact Z3) ?_
  · exact Nat.zero_le _
  rintro k hle_k
  try simp only [Ca,Na]
  refine qL (qL (qC (.q 0 (.q 1 (.q 2 (.q 3 (.q 4 (.q 5 (.q 6 (.q 7 (.q 8 (.q 9 (.done))))))))))) Kr ?_))
  refine qK J J J J (qK J J J J (qZ J J J J (qG (k:=7) J J J J υ'43 J ζ'41 J ?_)))
  refine qP (j:=7) J J J J α'41 Tk Az (by rfl) ?_
  refine qK J J J J (cK (sz:=0) (k:=p) (enc:=encH) (xs:=(MF.map (·.2))) J J J J J υ'41 ζ'62 hyp (by first | rfl | omega) Om Tk ?_)
  intro ib281 io281 ha281 hl281 hc281
  refine cQ (v:=(.slice an ((mks (wmF p) x3.length++mks (wmF p) 70).length) cn)) (j:=0) (k':=p) (enc:=encH) (off:=io281) J J J J α'62 ha281 sB hyp Tk (by first | rfl | exact (Ad _).symm | omega) (by rfl) ?_
  refine sR J J J J υ'62 ?_
  refine qD J J J J J (sK _ _ _ _) ?_
  refine qS (qW [0,17,18,284] (e':=[(0,_),(17,_),(18,_),(284,_)]) J ?_)
  refine qQ ?_
  refine qF J (fun hlk=>?_) (fun hlk=>?_)
  ·
   have hlk2:k < x3.length+70:=by
     have h1:=hlk
     omega
   refine qH (qQ (qL (kV (qL (qC (.q 0 (.q 1 (.q 2 (.q 3 (.q 4 (.q 5 (.q 6 (.q 7 (.q 8 (.q 9 (.q 10 (.q 11 (.q 12 (.q 13 (.q 14 (.q 15 (.q 16 (.q 17 (.q 18 (.q 19 (.q 20 (.q 21 (.q 22 (.q 23 (.q 24 (.q 25 (.q 26 (.q 27 (.q 28 (.q 29 (.q 30 (.q 31 (.q 32 (.q 33 (.q 34 (.q 35 (.q 36 (.q 37 (.q 38 (.q 39 (.q 40 (.q 41 (.q 42 (.q 43 (.done))))))))))))))))))))))))))))))))))))))))))))) Kr ?_)))))
   refine qK J J J J (qZ J J J J (qG (k:=7) J J J J υ'43 J ζ'41 J ?_))
   refine qP (j:=7) J J J J α'41 Tk Az (by rfl) ?_
   refine qK J J J J (cK (sz:=0) (k:=p) (enc:=encH) (xs:=(MF.map (·.2))) J J J J J υ'41 ζ'62 hyp (by first | rfl | omega) Om Tk ?_)
   intro ib292 io292 ha292 hl292 hc292
   refine cQ (v:=(.slice an ((mks (wmF p) x3.length++mks (wmF p) 70).length) cn)) (j:=0) (k':=p) (enc:=encH) (off:=io292) J J J J α'62 ha292 sB hyp Tk (by first | rfl | exact (Ad _).symm | omega) (by rfl) ?_
   refine qK J J J J (q_idxR (sz:=2) (k:=k) J J J J J υ'62 ζ'65 (rds_big (f:=f2A 3 enc3) hyM (rds_app2_l enc3_len hfx.1.1 hfx.1.2)) (mk2_all (f:=wmF) (p:=p) (n:=x3.length) (m:=70) (k:=k) (fun _=>rfl) hlk2) enc3_len (by first | rfl | omega) Om ?_)
   intro ib295 io295 _ hd295
   refine qG (k:=0) J J J J υ'65 J ζ'3 J ?_
   refine q_load J J J J α'3 Tk (hd295 0 (.int .i64 ((wmF p k).1)) J) ?_
   refine qK J J J J (q_neg J J J J ?_)
   refine kF 299 J (v':=.int .i64 (-((p:Nat):Int))) (by rw [wrap_fits (by exact kY Om Om)];congr 1;omega) ?_
   refine qD J J J J J (b_sub' _ (by exact kY Om Om)) ?_
   refine qD J J J J J (b_neq _ _ _ _) ?_
   refine kF 301 J (v':=.bool false) (by refine congrArg Value.bool (decide_eq_false ?_);intro h9;exact h9 (by unfold wmF;first | omega | (dsimp only;omega))) ?_
   refine qK J J J J (qK J J J J (qK J J J J (qZ J J J J (qG (k:=6) J J J J υ'43 J ζ'41 J ?_))))
   refine qP (j:=6) J J J J α'41 Tk Az (by rfl) ?_
   refine qK J J J J (cK (sz:=0) (k:=p) (enc:=encH) (xs:=F) J J J J J υ'41 ζ'62 hx (by first | rfl | omega) Om Tk ?_)
   intro ib309 io309 ha309 hl309 hc309
   refine cQ (v:=(.slice b1 x3.length b2)) (j:=0) (k':=p) (enc:=encH) (off:=io309) J J J J α'62 ha309 sB hx Tk (by first | rfl | exact (Ad _).symm | omega) (by rfl) ?_
   refine sR J J J J υ'62 ?_
   refine qD J J J J J (sK _ _ _ _) ?_
   refine qK J J J J ?_
   refine cV 313 J (fun hkn=>?_) (fun hkn=>?_)
   ·
    refine qK J J J J (qZ J J J J (qG (k:=6) J J J J υ'43 J ζ'41 J ?_))
    refine qP (j:=6) J J J J α'41 Tk Az (by rfl) ?_
    refine qK J J J J (cK (sz:=0) (k:=p) (enc:=encH) (xs:=F) J J J J J υ'41 ζ'62 hx (by first | rfl | omega) Om Tk ?_)
    intro ib319 io319 ha319 hl319 hc319
    refine cQ (v:=(.slice b1 x3.length b2)) (j:=0) (k':=p) (enc:=encH) (off:=io319) J J J J α'62 ha319 sB hx Tk (by first | rfl | exact (Ad _).symm | omega) (by rfl) ?_
    refine qK J J J J (q_idxR (sz:=2) (k:=k) J J J J J υ'62 ζ'65 (rds_big (f:=f2A 3 enc3) hyM (rds_app2_r enc3_len (mks_take _ _ _) hfx.2.1 hfx.2.2)) (mks_get (wmF p) (n:=x3.length) (k:=k) Om) enc3_len (by first | rfl | omega) Om ?_)
    intro ib322 io322 _ hd322
    refine qG (k:=0) J J J J υ'65 J ζ'3 J ?_
    refine q_load J J J J α'3 Tk (hd322 0 (.int .i64 ((wmF p k).1)) J) ?_
    refine qK J J J J (q_neg J J J J ?_)
    refine kF 326 J (v':=.int .i64 (-((p:Nat):Int))) (by rw [wrap_fits (by exact kY Om Om)];congr 1;omega) ?_
    refine qD J J J J J (b_sub' _ (by exact kY Om Om)) ?_
    refine qD J J J J J (b_neq _ _ _ _) ?_
    refine kF 328 J (v':=.bool false) (by refine congrArg Value.bool (decide_eq_false ?_);intro h9;exact h9 (by unfold wmF;first | omega | (dsimp only;omega))) ?_
    refine kL J J J J J (kD J J J J J (qS (qW [0,17,18,303,304,305,306,307,308,309,310,311,312,313,314,315,316,317,318,319,320,321,322,323,324,325,326,327,328,329,330] (e':=[(0,_),(17,_),(18,_),(303,_),(304,_),(305,_),(306,_),(307,_),(308,_),(309,_),(310,_),(311,_),(312,_),(313,_),(314,_),(315,_),(316,_),(317,_),(318,_),(319,_),(320,_),(321,_),(322,_),(323,_),(324,_),(325,_),(326,_),(327,_),(328,_),(329,_),(330,_)]) J ?_)))
    refine qQ (kN J ?_)
    refine qH (kG (qQ (qC (.q 0 (.q 1 (.q 2 (.done)))) Kr ?_)))
    refine qK J J J J (qD J J J J J (cF _ (by exact kY Om Om)) ?_)
    refine qR J J J J (qS (qQ ?_))
    refine kZ (x:=k) (k+1) ?_ ?_ ?_ ?_
    · exact by show k+1≤x3.length+70;omega
    · show x3.length+70 - (k+1) < x3.length+70 - k;omega
    · exact ⟨rfl,rfl,rfl,trivial⟩
    · (try simp only [Ca,Na]);exact Tf
   refine qX J J J J (qX J J J J (qX J J J J (qX J J J J (qX J J J J (qX J J J J (qX J J J J (qX J J J J (qX J J J J ?_))))))))
   refine qX J J J J (qX J J J J (qX J J J J (qX J J J J (qX J J J J (qX J J J J (kD J J J J J (kD J J J J J (qS ?_))))))))
   refine qW [0,17,18,303,304,305,306,307,308,309,310,311,312,313,314,315,316,317,318,319,320,321,322,323,324,325,326,327,328,329,330] (e':=[(0,_),(17,_),(18,_),(303,_),(304,_),(305,_),(306,_),(307,_),(308,_),(309,_),(310,_),(311,_),(312,_),(313,_),(314,_),(315,_),(316,_),(317,_),(318,_),(319,_),(320,_),(321,_),(322,_),(323,_),(324,_),(325,_),(326,_),(327,_),(328,_),(329,_),(330,_)]) J ?_
   refine qQ (kN J ?_)
   refine qH (kG (qQ (qC (.q 0 (.q 1 (.q 2 (.done)))) Kr ?_)))
   refine qK J J J J (qD J J J J J (cF _ (by exact kY Om Om)) ?_)
   refine qR J J J J (qS (qQ ?_))
   refine kZ (x:=k) (k+1) ?_ ?_ ?_ ?_
   · exact by show k+1≤x3.length+70;omega
   · show x3.length+70 - (k+1) < x3.length+70 - k;omega
   · exact ⟨rfl,rfl,rfl,trivial⟩
   · (try simp only [Ca,Na]);exact Tf
  refine cS (qY (qY (kK (kG (qQ (qC (.q 0 (.q 1 (.q 2 (.done)))) Kr ?_))))))
  refine qK J J J J (qD J J J J J (cF _ (by exact kY Om Om)) ?_)
  refine qR J J J J (qS (qW [0,17] (e':=[(0,_),(17,_)]) J ?_))
  refine qQ ?_
  refine kZ (x:=p) (p+1) ?_ ?_ ?_ ?_
  · exact by show p+1≤F.length;omega
  · show F.length - (p+1) < F.length - p;omega
  · exact ⟨rfl,rfl,trivial⟩
  · (try simp only [Ca,Na]);exact Tf
 refine cS (qY (qY (kK (qQ (qL (qC (.q 0 (.done)) Kr ?_))))))
 refine qR J J J J (qS (qQ (qJ (cR J J (()) (by first | rfl | (first | rfl | (congr 1;done) | (congr 1 <;> first | rfl | omega | (simp;done) | (simp;omega)))) (by trivial) ?_))))
 exact Tf
end Go.Ab.Rh
set_option linter.unusedVariables false
set_option linter.unusedSimpArgs false
set_option maxRecDepth 100000
namespace Go.Ab.Rh
open Go Go.Proofs Go.Ab Go.Ab.Fe Go.Ab.Vc Go.Ab.Dj Go.Ab.Rv Go.Ab.Hi
/-- The table and what lies in its places. -/
structure TS where
  o0:Option Addr
  o1:Option Addr
  r0:Option Addr
  r1:Option Addr
  m0:Option HA
  m1:Option HA
  B:BK
structure TOk (pl:List Int) (n:Nat) (N:Int) (T:TS):Prop where
  m0:SOk pl N T.m0
  m1:SOk pl N T.m1
  B:BOk n T.B
theorem tmod_bds (a:Int):-2 < Int.tmod a 2∧Int.tmod a 2 < 2:=by
  rcases Int.le_total 0 a with h1 | h1
  · rw [Int.tmod_eq_emod_of_nonneg h1];omega
  · have e:Int.tmod a 2=-Int.tmod (-a) 2:=by rw [Int.neg_tmod];omega
    rw [e,Int.tmod_eq_emod_of_nonneg Om];omega
theorem tmod_two (a:Int):Int.tmod (Int.tmod a 2+2) 2=0∨Int.tmod (Int.tmod a 2+2) 2=1:=by
  have h:=tmod_bds a
  rw [Int.tmod_eq_emod_of_nonneg Om];omega
theorem own_front {α:Type} {sz:Nat} {enc:α→List Value} (hsz:∀ x,(enc x).length=sz) {ao:Option Addr} {cap:Nat} {l:List α} {z:α} (h2:ao=none→l++[z]=[]∧cap=0) (h3:ao≠none→∃ b off,ao=some ⟨b,off,none⟩):RdS (own sz enc ao cap (l++[z])) ao (l.flatMap enc):=by
  have:=rds_take (rC (cap:=cap) hsz (fun e=>(h2 e).1) h3) hsz l.length
  rwa [List.take_left] at this
theorem eqC_hh {pa:Option Addr} {pc:Nat} {po:Option Addr} {poc:Nat} {ao bo:Option Addr} {m:Option HA} {Γ Γ1 Γ2:List HProp} (tk1:Take Γ (hdP ao) Γ1) (tk2:Take Γ (ownP pa pc po poc bo m) Γ2) (hm:m≠none) (ha:ao≠none) (hne:ao≠bo) (h:Hp) (s:Sat Γ h) :
    ∃ a b k u fz,ao=some ⟨a,0,none⟩∧bo=some ⟨b,0,none⟩∧a≠b∧(∃ t,h (a,none)=some (.inr (.inr (t,k+1,0,0))))∧h (b,some 0)=some (.inl (u,fz)):=by
  obtain ⟨h1,l1,a1,-⟩:=tk1 _ s
  obtain ⟨h2,l2,a2,-⟩:=tk2 _ s
  cases m with
  | none=>exact absurd rfl hm
  | some x =>
    obtain ⟨b,rfl,vb,mk,va,vc,k1,m1,c1,-⟩:=a2
    cases ao with
    | none=>exact absurd rfl ha
    | some a =>
      obtain ⟨c,rfl,t,ht⟩:=a1 _ rfl
      exact ⟨c,b,3,_,_,rfl,rfl,fun e=>hne (by rw [e]),⟨t,l1 _ _ ht⟩,l2 _ _ (m1 _ _ (c1 0 _ J))⟩
theorem app_at {α:Type} (l:List α) (z:α):(l++[z])[l.length]?=some z:=by simp
theorem step0 (b:Nat) (o0 o1 r0 r1:Option Addr) (B:BK) (n_:Nat) (hB:BOk n_ B) (hn_:n_≤3999990) (pa:Option Addr) (pc:Nat) (po:Option Addr) (poc:Nat) (ra:Option Addr) (rc:Nat) (m0 m1:Option HA) (pl:List Int) (N:Int) (hN:N≤1900000000000) (hm0:SOk pl N m0) (hm1:SOk pl N m1) (kd on k t u z y_:Int) (es:List T3) (eo:Option Addr) (en ec:Nat) (A:HProp) (he:RdS A eo (es.flatMap enc3)) (hm:es.length=en) (hmb:en≤1500000) (hon:Int.tmod (Int.tmod on 2+2) 2=0):Spec Tryz.prog 8 [.pointer (some ⟨b,0,none⟩),.agg #[.int .i64 kd,.int .i64 on,.int .i64 k,.int .i64 t,.int .i64 u,.slice eo en ec,.int .i64 z,.int .i64 y_]] [A,tabR b o0 o1 r0 r1 B,ownP pa pc po poc o0 m0,ownP pa pc po poc o1 m1,refP ra rc r0 m0,refP ra rc r1 m1,own 1 encZ pa pc pl,own 1 encZ po poc pl,own 1 encZ ra rc pl] (fun (T2:TS)=>.bool true) (fun T2=>TOk pl (n_+1) (N+1500000) T2) (fun T2=>[A,tabR b T2.o0 T2.o1 T2.r0 T2.r1 T2.B,ownP pa pc po poc T2.o0 T2.m0,ownP pa pc po poc T2.o1 T2.m1,refP ra rc T2.r0 T2.m0,refP ra rc T2.r1 T2.m1,own 1 encZ pa pc pl,own 1 encZ po poc pl,own 1 encZ ra rc pl]):=by
 refine kS (n:=162) Tryz.func8 J J J ?_
 intro Γ w0
 simp only [argE,Ca,Na,Zd,Nat.reduceAdd]
 obtain ⟨hbl1,hbl2⟩:=bok_len hB
 have hbl3:=hB.cn
 have hbl4:=hB.fn
 refine qL (qC ((.l 0 [] (.q 1 (.done)))) Kr ?_)
 refine sG J J J J (us:=[_,_,_,_,_,_,_,_]) J ?_
 intro b3
 refine qV (qR J J J J (qS (qQ (qL (qC (.q 0 (.q 1 (.q 2 (.q 3 (.q 4 (.q 5 (.done))))))) Kr ?_)))))
 refine qG (k:=1) J J J J υ'55 J ζ'3 J ?_
 refine qP (j:=1) J J J J α'3 Tk Az (by rfl) ?_
 refine qD J J J J J (b_remT _ (by decide)) ?_
 have htm:=tmod_bds on
 refine qD J J J J J (cF _ (by exact kY Om Om)) ?_
 refine qD J J J J J (b_remT _ (by decide)) ?_
 refine qR J J J J (qS (kF 5 J (v':=.int .i64 0) (by rw [hon]) ?_))
 refine qW [0,3,5] (e':=[(0,_),(3,_),(5,_)]) J ?_
 refine qQ (qL (tab_open (b:=b) (B:=B) Tk fun ca cc wa wc fa fc ga gc=>?_))
 refine qC (.q 0 (.q 1 (.q 2 (.q 3 (.q 4 (.q 5 (.q 6 (.done)))))))) Kr ?_
 refine qK J J J J (qK J J J J (qZ J J J J (qG (k:=0) J J J J υ'43 J ζ'38 J ?_)))
 refine q_idxA (k:=0) J J J J J υ'38 ζ'29 (by first | rfl | omega) (by decide) ?_
 refine qP (j:=0) J J J J Tryz.isAgg29 Tk Az (by rfl) ?_
 refine qR J J J J (qS (qW [0,3,5,6] (e':=[(0,_),(3,_),(5,_),(6,_)]) J ?_))
 refine qQ (qL (qC (.q 0 (.q 1 (.q 2 (.q 3 (.q 4 (.q 5 (.q 6 (.done)))))))) Kr ?_))
 refine qK J J J J (qK J J J J (qZ J J J J (qG (k:=2) J J J J υ'43 J ζ'39 J ?_)))
 refine q_idxA (k:=0) J J J J J υ'39 ζ'33 (by first | rfl | omega) (by decide) ?_
 refine qP (j:=2) J J J J Tryz.isAgg33 Tk Az (by rfl) ?_
 refine qR J J J J (qS (qW [0,3,5,6,7] (e':=[(0,_),(3,_),(5,_),(6,_),(7,_)]) J ?_))
 refine qQ (qL (qL (tab_fold (b:=b) (o0:=o0) (o1:=o1) (r0:=r0) (r1:=r1) (C:=B.C) (W:=B.W) (F:=B.F) (G:=B.G) (ca:=ca) (cc:=cc) (wa:=wa) (wc:=wc) (fa:=fa) (fc:=fc) (ga:=ga) (gc:=gc) Ts J J J J ?_)))
 refine qC (.q 0 (.q 1 (.done))) Kr ?_
 refine qG (k:=0) J J J J υ'55 J ζ'3 J ?_
 refine qP (j:=0) J J J J α'3 Tk Az (by rfl) ?_
 refine qS (qQ (kV (qL (qC (.q 0 (.q 1 (.done))) Kr ?_))))
 refine qD J J J J J (cZ _ _ _ _) ?_
 refine qR J J J J (qS (qQ ?_))
 refine qF J (fun hk0=>?_) (fun hk0=>?_)
 ·
  refine qL (kM J (.q 0 (.q 1 (.q 2 (.q 5 (.q 6 (.q 7 ((.l 3 [7] ((.l 4 [7] ((.l 8 [] (.q 9 (.q 10 (.done))))))))))))))) Kr ?_)
  refine qK J J J J (qG (k:=2) J J J J υ'55 J ζ'52 J ?_)
  refine kC J J J J α'52 ζ'52 Tk 2 (us:=[_,_,_]) Az J J ?_
  refine qK J J J J (qG (k:=2) J J J J υ'55 J ζ'52 J ?_)
  refine kC J J J J α'52 ζ'52 Tk 2 (us:=[_,_,_]) Az J J ?_
  have sp_1:=own_ev pa pc po poc o0 m0 pl N hN hm0 k t u
  refine qB J J J J J J κ'15 (sp_1) Ts ?_
  rintro ⟨⟩ -
  try simp only [Ca,Na]
  refine kW J J (us:=[_,_,_]) J α'52 ζ'52 Tk 2 Az J J ?_
  refine qV ?_
  have sp_2:=Hi.num_spec (sE m0 k t u)
  refine qB J J J J J J κ'7 (sp_2) Ts ?_
  rintro ⟨⟩ -
  try simp only [Ca,Na]
  refine kW J J (us:=[_,_,_]) J α'52 ζ'52 Tk 2 Az J J ?_
  refine qV ?_
  have sp_3:=ref_ev ra rc r0 m0 pl N hN hm0 k t u
  refine qB J J J J J J Tryz.call18 (sp_3) Ts ?_
  rintro ⟨⟩ -
  try simp only [Ca,Na]
  refine qV (qD J J J J J (cZ _ _ _ _) ?_)
  refine kF 46 J (v':=.bool true) (by first | (rw [decide_eq_true rfl];done) | simp) ?_
  refine qR J J J J (qS (qW [4] (e':=[(4,_)]) J ?_))
  refine qQ (qJ (kH (qN (cR J J (⟨o0,o1,r0,r1,(m0.map fun x=>hE2 x k t u),m1,B⟩) (by first | rfl | (first | rfl | (congr 1;done) | (congr 1 <;> first | rfl | omega | (simp;done) | (simp;omega)))) (by exact ⟨sok_more (sok_map hm0 k t u) Om,sok_more hm1 Om,bok_more hB Om⟩) ?_))))
  exact Tf
 refine qL (qC (.q 0 (.q 1 (.done))) Kr ?_)
 refine qD J J J J J (cZ _ _ _ _) ?_
 refine qR J J J J (qS (qW [0,3,5,6,7,34,47] (e':=[(0,_),(3,_),(5,_),(6,_),(7,_),(34,_),(47,_)]) J ?_))
 refine qQ ?_
 refine qF J (fun hk1=>?_) (fun hk1=>?_)
 ·
  refine qL (qC ((.l 0 [] (.q 1 (.q 2 ((.l 3 [] (.q 4 ((.l 5 [] ((.l 6 [] (.q 7 (.done))))))))))))) Kr ?_)
  refine cG J J J J υ'53 ζ'52 ?_
  intro b49
  refine qV (qG (k:=5) J J J J υ'55 J ζ'53 J ?_)
  refine qP (j:=5) J J J J α'53 Tk Az (by rfl) ?_
  refine cP (A:=cells b49 0 []) Tk ?_
  refine cL (fun _ h=>own_mk (sz:=3) (enc:=enc3) (xs:=[]) (sp:=[]) (cap:=0) (Nat.le_refl _) J h) ?_
  refine cN (sz:=3) (enc:=enc3) (xs:=[]) J J J J J υ'53 τ'52 J J J (by decide) Tk Tk (by first | rfl | omega | (simp;done) | (simp;omega)) (ys:=es) (he) (by rfl) (by first | rfl | omega) (enc3_len) (enc3_one) Om (by show _*24≤_;omega) ?_
  intro ao52 cp52
  try simp only [Na]
  refine kF 52 J (v':=.slice ao52 en cp52) (by first | rfl | (congr 1;done) | (congr 1 <;> first | rfl | omega | (simp;done) | (simp;omega))) ?_
  refine qV (kB J J J J (vs:=[_,_,_]) (kQ υ'52 ω'52 (ps:=[(0,1),(1,1),(2,1)]) ⟨rfl,ζ'50,rfl,ζ'3,rfl,ζ'3,trivial⟩ rfl) ?_)
  refine kJ J J J J (cW (us:=[_,_,_]) υ'53 ζ'52 J ω'52 J J J) ?_
  intro b54
  refine qV (cN (sz:=3) (enc:=enc3) (xs:=(es)) J J J J J υ'53 τ'52 J J J (by decide) Tk Tk (by first | rfl | omega | (simp;done) | (simp;omega)) (ys:=[(0,0,(-77))]) (cJ cB) (by rfl) (by first | rfl | omega) (enc3_len) (enc3_one) Om (by show _*24≤_;omega) ?_)
  intro ao55 cp55
  refine qV (qR J J J J (qS (qW [3,6,7,8] (e':=[(3,_),(6,_),(7,_),(8,_)]) J ?_)))
  refine qQ (qL (qC (.q 0 (.q 1 (.q 2 (.q 3 (.q 4 (.q 5 ((.l 6 [] (.q 7 (.q 8 (.q 9 (.q 10 (.q 11 (.done)))))))))))))) Kr ?_))
  refine qK J J J J (qK J J J J (qG (k:=5) J J J J υ'55 J ζ'53 J ?_))
  refine qP (j:=5) J J J J α'53 Tk Az (by rfl) ?_
  refine sR J J J J υ'53 ?_
  refine cP (A:=own 3 enc3 ao55 cp55 (es++[(((0:Int),(0:Int),(-77:Int)):T3)])) Tk ?_
  refine own_fc fun wt1 wt2 wt3=>?_
  have hwt1:=wt1
  simp only [List.length_append,List.length_singleton] at hwt1
  refine q_cut_hi (h':=en) J J J J J υ'53 ζ'52 (by first | rfl | omega) Om ?_
  refine cP (A:=own 3 enc3 ao55 cp55 ((es)++([(0,0,(-77))]))) Tk ?_
  refine own_fc fun f_4a f_4b f_4c=>?_
  have sp_5:=own_evs pa pc po poc o0 m0 pl N hN hm0 es ao55 en cp55 (own 3 enc3 ao55 cp55 (es++[(((0:Int),(0:Int),(-77:Int)):T3)])) ((own_front enc3_len wt2 wt3)) (by first | rfl | exact hm | omega) Om
  refine qB J J J J J J Tryz.call10 (sp_5) Ts ?_
  rintro i hi
  try simp only [Ca,Na]
  refine qV (qK J J J J (kX J J J J J (kX J J J J J (qR J J J J (qR J J J J (qS (qW [3,7,8,9,10] (e':=[(3,_),(7,_),(8,_),(9,_),(10,_)]) J ?_)))))))
  refine qQ (qL (qC (.q 0 (.q 1 (.q 2 ((.l 3 [] (.q 4 (.q 5 (.q 6 (.q 7 (.q 8 (.done))))))))))) Kr ?_))
  refine qK J J J J (qG (k:=5) J J J J υ'55 J ζ'53 J ?_)
  refine qP (j:=5) J J J J α'53 Tk Az (by rfl) ?_
  have sp_6:=ref_evs ra rc r0 m0 pl N hN hm0 es eo en ec A (he) (by first | rfl | exact hm | omega) Om
  refine qB J J J J J J Tryz.call19 (sp_6) Ts ?_
  rintro j hj
  try simp only [Ca,Na]
  refine qV (qK J J J J (kX J J J J J (kX J J J J J (qR J J J J (qR J J J J (qS ?_))))))
  obtain rfl:=evs_uniq hm hi hj
  refine qW [3,8,9,10,11,12] (e':=[(3,_),(8,_),(9,_),(10,_),(11,_),(12,_)]) J ?_
  refine qQ (qL (qL (qC (.q 0 (.done)) Kr ?_)))
  refine qR J J J J (qS (qQ (kV ?_)))
  refine sS (α:=Nat × List T3) (fun (x_:Nat × List T3)=>match x_ with | (y,f)=>y≤en∧(f.length=en+1)∧(f[en]?=some (((0:Int),(0:Int),(-77:Int)):T3))∧(∀ j:Nat,y≤j→j < en→f[j]?=es[j]?)) (fun (x_:Nat × List T3)=>match x_ with | (y,f)=>[(8,.slice ao55 (en+1) cp55),(13,.int .i64 ((y:Nat):Int))]) (fun (x_:Nat × List T3)=>match x_ with | (y,f)=>[own 3 enc3 ao55 cp55 f]) (fun (x_:Nat × List T3)=>match x_ with | (y,f)=>en - y) [3,9,10,11,12] (er:=[(3,_),(9,_),(10,_),(11,_),(12,_)]) J (0,(es++[(((0:Int),(0:Int),(-77:Int)):T3)])) ?_ (by exact ⟨rfl,rfl,trivial⟩) (by (try dsimp only);(try simp only [Ad,Zd]);(repeat ((with_reducible apply Z2);focus (first | (with_reducible (repeat (first | exact Z0 | apply Z1));done) | (repeat (first | exact Z0 | apply Z1)))));exact Z3) ?_
  · exact ⟨Nat.zero_le _,by rw [List.length_append,hm];rfl,by rw [← hm];exact app_at _ _,fun j _ hj=>List.getElem?_append_left Om⟩
  rintro ⟨y,f⟩ ⟨hle_y,hfl,hfe,hfq⟩
  try simp only [Ca,Na]
  refine qL (qL (qC (.q 0 (.q 1 (.q 2 (.q 3 (.q 4 (.done)))))) Kr ?_))
  refine qK J J J J (qG (k:=5) J J J J υ'55 J ζ'53 J ?_)
  refine qP (j:=5) J J J J α'53 Tk Az (by rfl) ?_
  refine sR J J J J υ'53 ?_
  refine qD J J J J J (sK _ _ _ _) ?_
  refine qS (qW [3,8,9,10,11,12,13,77] (e':=[(3,_),(8,_),(9,_),(10,_),(11,_),(12,_),(13,_),(77,_)]) J ?_)
  refine qQ ?_
  refine qF J (fun hlt=>?_) (fun hlt=>?_)
  ·
   refine qH (qQ (qL (kV (qL (qL ?_)))))
   obtain ⟨p,hp⟩:=cX (l:=es) (i:=y) Om
   have hpf:f[y]?=some p:=(hfq y (Nat.le_refl _) Om).trans hp
   refine kM J (.q 0 (.q 1 (.q 2 (.q 3 (.q 4 (.q 5 (.q 6 (.q 7 (.q 8 (.q 9 (.done))))))))))) Kr ?_
   refine qK J J J J (qK J J J J (cK (sz:=2) (k:=y) (enc:=enc3) (xs:=f) J J J J J υ'53 ζ'52 hpf (by first | rfl | omega) Om Tk ?_))
   intro ib82 io82 ha82 hl82 hc82
   refine rS (j:=0) (k':=y) (us:=[_,_,_]) (enc:=enc3) (off:=io82) J J J J α'52 ζ'52 ha82 enc3_len hpf Tk (by first | rfl | exact (Ad _).symm | omega) (by rfl) J ?_
   refine qG (k:=5) J J J J υ'55 J ζ'53 J ?_
   refine qP (j:=5) J J J J α'53 Tk Az (by rfl) ?_
   refine qK J J J J (q_idxR (sz:=2) (k:=y) J J J J J υ'53 ζ'52 (he) hp enc3_len (by first | rfl | omega) Om ?_)
   intro ib87 io87 _ hd87
   refine q_loadN (vs:=[_,_,_]) J J J J α'52 ζ'52 Tk (hd87) J ?_
   refine q_neS J J J J J Kr (eqc_struct υ'52 Kr (rL J α'50 J J (sF υ'50) (rL J α'3 J J (sF υ'3) (eqf_last J α'3 J J (sF υ'3))))) ?_
   refine kF 89 J (v':=.bool (decide (p≠p))) (by first | (congr 1;done) | (congr 1;rw [Bool.eq_iff_iff];simp [Prod.ext_iff,and_assoc])) ?_
   refine kF 89 J (v':=.bool false) (by first | rfl | simp) ?_
   refine qS (qW [3,8,9,10,11,12,13,89] (e':=[(3,_),(8,_),(9,_),(10,_),(11,_),(12,_),(13,_),(89,_)]) J ?_)
   refine qQ (kN J ?_)
   refine qH (qQ (qC (.q 0 (.q 1 (.q 2 (.q 3 ((.l 4 [] (.done))))))) Kr ?_))
   refine qK J J J J (qK J J J J (kB J J J J (vs:=[_,_,_]) (kQ υ'52 ω'52 (ps:=[(0,1),(1,1),(2,1)]) ⟨rfl,ζ'50,rfl,ζ'3,rfl,ζ'3,trivial⟩ rfl) ?_))
   refine cK (sz:=2) (k:=y) (enc:=enc3) (xs:=f) J J J J J υ'53 ζ'52 hpf (by first | rfl | omega) Om Tk ?_
   intro ib93 io93 ha93 hl93 hc93
   refine sC (j:=0) (k:=y) (q:=((0,0,-78):T3)) (enc:=enc3) (off:=io93) J J J J ζ'52 (us:=[_,_,_]) J J J ha93 enc3_len hpf Tk (by first | rfl | exact (Ad _).symm | omega) (by first | decide | exact Nat.le_of_ble_eq_true J) (by rfl) ?_
   refine qV (qS (qW [3,8,9,10,11,12,13] (e':=[(3,_),(8,_),(9,_),(10,_),(11,_),(12,_),(13,_)]) J ?_))
   refine kG (qQ (qC (.q 0 (.q 1 (.q 2 (.done)))) Kr ?_))
   refine qK J J J J (qD J J J J J (cF _ (by exact kY Om Om)) ?_)
   refine qR J J J J (qS (qQ ?_))
   refine kZ (x:=(y,f)) ((y+1,f.set y (0,0,-78))) ?_ ?_ ?_ ?_
   · try dsimp only
     exact ⟨by omega,by rw [List.length_set];exact hfl,by rw [List.getElem?_set_ne Om];exact hfe,fun j h1 h2=>by rw [List.getElem?_set_ne Om];exact hfq j Om h2⟩
   · show en - (y+1) < en - y;omega
   · exact ⟨rfl,rfl,rfl,rfl,rfl,rfl,rfl,trivial⟩
   · (try simp only [Ca,Na]);exact Tf
  refine cS (qY (qY (kK (qQ (qL (qC (.q 0 (.q 1 (.q 2 (.q 3 (.q 4 ((.l 5 [] (.q 6 (.q 7 (.q 8 (.q 9 (.q 10 (.q 11 (.q 12 (.q 13 (.q 14 (.q 15 (.q 16 (.q 17 (.q 18 (.q 19 (.done)))))))))))))))))))))) Kr ?_))))))
  refine qK J J J J (qK J J J J (qD J J J J J (cZ _ _ _ _) ?_))
  refine kF 96 J (v':=.bool true) (by first | (rw [decide_eq_true rfl];done) | simp) ?_
  refine qK J J J J (qK J J J J ?_)
  have sp_7:=Hi.num_spec (evsE m0 en i)
  refine qB J J J J J J κ'7 (sp_7) Ts ?_
  rintro ⟨⟩ -
  try simp only [Ca,Na]
  refine qV (qK J J J J (qD J J J J J (cZ _ _ _ _) ?_))
  refine kF 101 J (v':=.bool true) (by first | (rw [decide_eq_true rfl];done) | simp) ?_
  refine kL J J J J J (qK J J J J (qK J J J J (qG (k:=5) J J J J υ'55 J ζ'53 J ?_)))
  refine qP (j:=5) J J J J α'53 Tk Az (by rfl) ?_
  refine sR J J J J υ'53 ?_
  refine cK (sz:=2) (k:=en) (enc:=enc3) (xs:=f) J J J J J υ'53 ζ'52 hfe (by first | rfl | omega) Om Tk ?_
  intro ib108 io108 ha108 hl108 hc108
  refine rS (j:=0) (k':=en) (us:=[_,_,_]) (enc:=enc3) (off:=io108) J J J J α'52 ζ'52 ha108 enc3_len hfe Tk (by first | rfl | exact (Ad _).symm | omega) (by rfl) J ?_
  refine kB J J J J (vs:=[_,_,_]) (kQ υ'52 ω'52 (ps:=[(0,1),(1,1),(2,1)]) ⟨rfl,ζ'50,rfl,ζ'3,rfl,ζ'3,trivial⟩ rfl) ?_
  refine q_eqS J J J J J Kr (eqc_struct υ'52 Kr (rL J α'50 J J (sF υ'50) (rL J α'3 J J (sF υ'3) (eqf_last J α'3 J J (sF υ'3))))) ?_
  refine kF 111 J (v':=.bool (decide ((((0:Int),(0:Int),(-77:Int)):T3)=(0,0,(-77))))) (by first | (congr 1;done) | (congr 1;rw [Bool.eq_iff_iff];simp [Prod.ext_iff,and_assoc])) ?_
  refine kF 111 J (v':=.bool true) (by first | (rw [decide_eq_true rfl];done) | simp) ?_
  refine kL J J J J J (qR J J J J (qS (qW [4] (e':=[(4,_)]) J ?_)))
  refine qQ (qJ (kH (qN ?_)))
  have htl:=List.length_take_le i es
  have hi1:=hi.1
  refine cR J J (⟨o0,o1,r0,r1,(m0.map fun x=>hA2 x (es.take i)),m1,B⟩) (by first | rfl | (first | rfl | (congr 1;done) | (congr 1 <;> first | rfl | omega | (simp;done) | (simp;omega)))) (by exact ⟨sok_all hm0 (es.take i) Om,sok_more hm1 Om,bok_more hB Om⟩) ?_
  exact Tf
 refine qL (qC (.q 0 (.q 1 (.done))) Kr ?_)
 refine qD J J J J J (cZ _ _ _ _) ?_
 refine qR J J J J (qS (qQ ?_))
 refine qF J (fun hk7=>?_) (fun hk7=>?_)
 ·
  refine qL (qC (.q 0 ((.l 1 [] (.q 2 (.done))))) Kr ?_)
  refine qK J J J J ?_
  have sp_8:=own_cy pa pc po poc o0 m0 pl N hN hm0
  refine qB J J J J J J Tryz.call20 (sp_8) Ts ?_
  rintro cq ⟨hc1,hc2⟩
  try simp only [Ca,Na]
  refine qV (qR J J J J (qS (qW [0,5,6,7,14] (e':=[(0,_),(5,_),(6,_),(7,_),(14,_)]) J ?_)))
  refine qQ (qL (qC (.q 0 ((.l 1 [] (.q 2 (.done))))) Kr ?_))
  refine qK J J J J ?_
  have sp_9:=ref_cy ra rc r0 m0 pl N hN hm0
  refine qB J J J J J J Tryz.call21 (sp_9) Ts ?_
  rintro dq hd1
  try simp only [Ca,Na]
  refine qV (qR J J J J (qS (qQ (qL (qL ?_)))))
  have hcd:cq.isNone=dq.isNone:=by rw [Bool.eq_iff_iff,Option.isNone_iff_eq_none,Option.isNone_iff_eq_none,hc1,hd1]
  refine qC (.q 0 (.q 1 (.q 2 (.q 3 (.q 4 (.q 5 (.q 6 (.q 7 (.q 8 (.q 9 (.q 10 ((.l 11 [] (.q 12 (.q 13 (.done)))))))))))))))) Kr ?_
  refine qK J J J J (cM J J J J υ'29 ?_)
  refine qK J J J J (cM J J J J υ'33 ?_)
  refine q_neb J J J J J υ'4 ?_
  refine kF 123 J (v':=.bool false) (by rw [hcd];simp) ?_
  refine qK J J J J (qK J J J J (q_ne_nil J J J J υ'29 ?_))
  refine qK J J J J ?_
  refine s_bool 127 J (fun hcn=>?_) (fun hcn=>?_)
  ·
   try simp only [Bool.and_eq_true,Bool.or_eq_true,Bool.not_eq_true',Bool.not_eq_false',Bool.and_eq_false_iff,Bool.or_eq_false_iff,decide_eq_true_eq,decide_eq_false_iff_not] at hcn
   have hcn2:cq≠none:=by intro e;rw [e] at hcn;simp at hcn
   refine qK J J J J (qK J J J J (l_eqC (j:=Tryz.t48) J J J J J υ'29 Kr (by decide) (eqC_hh (m:=m0) Tk Tk (fun e=>hcn2 (hc1.2 e)) hcn2 (hc2 hcn2)) ?_))
   refine qV (kL J J J J J (kD J J J J J (qS (qW [0,5,14,15,132] (e':=[(0,_),(5,_),(14,_),(15,_),(132,_)]) J ?_))))
   refine qQ (kN J ?_)
   refine qH (qQ (qL (tab_open (b:=b) (B:=B) Tk fun ca cc wa wc fa fc ga gc=>?_)))
   refine qC (.q 0 (.q 1 (.q 2 (.q 3 (.q 4 (.q 5 (.q 6 ((.l 7 [] (.done)))))))))) Kr ?_
   refine qK J J J J (qK J J J J (qD J J J J J (b_sub' _ (by exact kY Om Om)) ?_))
   refine kF 135 J (v':=.int .i64 1) (by rfl) ?_
   refine qK J J J J (qZ J J J J (qG (k:=0) J J J J υ'43 J ζ'38 J ?_))
   refine q_idxA (k:=1) J J J J J υ'38 ζ'29 (by first | rfl | omega) (by decide) ?_
   refine kR (j:=1) J J J J ζ'29 (us:=[_]) J J J Tk Az (by first | decide | (simp;done) | omega) ?_
   simp only [setL,List.set]
   refine qV (qS (qW [0,5,15] (e':=[(0,_),(5,_),(15,_)]) J ?_))
   refine qQ (qL (qC (.q 0 (.q 1 (.q 2 (.q 3 (.q 4 (.q 5 (.q 6 ((.l 7 [] (.done)))))))))) Kr ?_))
   refine qK J J J J (qK J J J J (qD J J J J J (b_sub' _ (by exact kY Om Om)) ?_))
   refine kF 142 J (v':=.int .i64 1) (by rfl) ?_
   refine qK J J J J (qZ J J J J (qG (k:=2) J J J J υ'43 J ζ'39 J ?_))
   refine q_idxA (k:=1) J J J J J υ'39 ζ'33 (by first | rfl | omega) (by decide) ?_
   refine kR (j:=3) J J J J ζ'33 (us:=[_]) J J J Tk Az (by first | decide | (simp;done) | omega) ?_
   simp only [setL,List.set]
   refine qV (qS (qW [] (e':=[]) J ?_))
   refine qQ (qL (qC (.q 0 (.done)) Kr ?_))
   refine qR J J J J (qS (qQ (qJ (kH (qN (tab_fold (b:=b) (o0:=o0) (o1:=cq) (r0:=r0) (r1:=dq) (C:=B.C) (W:=B.W) (F:=B.F) (G:=B.G) (ca:=ca) (cc:=cc) (wa:=wa) (wc:=wc) (fa:=fa) (fc:=fc) (ga:=ga) (gc:=gc) Ts J J J J ?_))))))
   refine cR J J (⟨o0,cq,r0,dq,m0,m0,B⟩) (by first | rfl | (first | rfl | (congr 1;done) | (congr 1 <;> first | rfl | omega | (simp;done) | (simp;omega)))) (by exact ⟨sok_more hm0 Om,sok_more hm0 Om,bok_more hB Om⟩) ?_
   exact Tf
  try simp only [Bool.and_eq_true,Bool.or_eq_true,Bool.not_eq_true',Bool.not_eq_false',Bool.and_eq_false_iff,Bool.or_eq_false_iff,decide_eq_true_eq,decide_eq_false_iff_not] at hcn
  refine qX J J J J (qX J J J J (rW J J J J ?_))
  refine kD J J J J J (kD J J J J J (qS (qW [0,5,14,15,132] (e':=[(0,_),(5,_),(14,_),(15,_),(132,_)]) J ?_)))
  refine qQ (kN J ?_)
  refine qH (qQ (qL (tab_open (b:=b) (B:=B) Tk fun ca cc wa wc fa fc ga gc=>?_)))
  refine qC (.q 0 (.q 1 (.q 2 (.q 3 (.q 4 (.q 5 (.q 6 ((.l 7 [] (.done)))))))))) Kr ?_
  refine qK J J J J (qK J J J J (qD J J J J J (b_sub' _ (by exact kY Om Om)) ?_))
  refine kF 135 J (v':=.int .i64 1) (by rfl) ?_
  refine qK J J J J (qZ J J J J (qG (k:=0) J J J J υ'43 J ζ'38 J ?_))
  refine q_idxA (k:=1) J J J J J υ'38 ζ'29 (by first | rfl | omega) (by decide) ?_
  refine kR (j:=1) J J J J ζ'29 (us:=[_]) J J J Tk Az (by first | decide | (simp;done) | omega) ?_
  simp only [setL,List.set]
  refine qV (qS (qW [0,5,15] (e':=[(0,_),(5,_),(15,_)]) J ?_))
  refine qQ (qL (qC (.q 0 (.q 1 (.q 2 (.q 3 (.q 4 (.q 5 (.q 6 ((.l 7 [] (.done)))))))))) Kr ?_))
  refine qK J J J J (qK J J J J (qD J J J J J (b_sub' _ (by exact kY Om Om)) ?_))
  refine kF 142 J (v':=.int .i64 1) (by rfl) ?_
  refine qK J J J J (qZ J J J J (qG (k:=2) J J J J υ'43 J ζ'39 J ?_))
  refine q_idxA (k:=1) J J J J J υ'39 ζ'33 (by first | rfl | omega) (by decide) ?_
  refine kR (j:=3) J J J J ζ'33 (us:=[_]) J J J Tk Az (by first | decide | (simp;done) | omega) ?_
  simp only [setL,List.set]
  refine qV (qS (qW [] (e':=[]) J ?_))
  refine qQ (qL (qC (.q 0 (.done)) Kr ?_))
  refine qR J J J J (qS (qQ (qJ (kH (qN (tab_fold (b:=b) (o0:=o0) (o1:=cq) (r0:=r0) (r1:=dq) (C:=B.C) (W:=B.W) (F:=B.F) (G:=B.G) (ca:=ca) (cc:=cc) (wa:=wa) (wc:=wc) (fa:=fa) (fc:=fc) (ga:=ga) (gc:=gc) Ts J J J J ?_))))))
  refine cR J J (⟨o0,cq,r0,dq,m0,m0,B⟩) (by first | rfl | (first | rfl | (congr 1;done) | (congr 1 <;> first | rfl | omega | (simp;done) | (simp;omega)))) (by exact ⟨sok_more hm0 Om,sok_more hm0 Om,bok_more hB Om⟩) ?_
  exact Tf
 refine qH (kG (qQ (qL (qC (.q 0 (.q 1 (.q 2 (.q 3 (.q 4 (.q 5 (.q 6 (.q 7 (.q 8 (.q 9 (.q 10 (.q 11 (.q 12 ((.l 13 [] (.q 14 (.q 15 (.done)))))))))))))))))) Kr ?_))))
 refine qG (k:=0) J J J J υ'55 J ζ'3 J ?_
 refine qP (j:=0) J J J J α'3 Tk Az (by rfl) ?_
 refine qD J J J J J (sK _ _ _ _) ?_
 refine qK J J J J ?_
 refine cV 150 J (fun hneg=>?_) (fun hneg=>?_)
 ·
  refine qX J J J J (qX J J J J (qX J J J J (kL J J J J J (qK J J J J (qX J J J J (qX J J J J (qX J J J J (qX J J J J ?_))))))))
  refine rW J J J J ?_
  refine kL J J J J J (qR J J J J (qS (qW [4] (e':=[(4,_)]) J ?_)))
  refine qQ (qJ (cR J J (⟨o0,o1,r0,r1,m0,m1,B⟩) (by first | rfl | (first | rfl | (congr 1;done) | (congr 1 <;> first | rfl | omega | (simp;done) | (simp;omega)))) (by exact ⟨sok_more hm0 Om,sok_more hm1 Om,bok_more hB Om⟩) ?_))
  exact Tf
 refine qG (k:=0) J J J J υ'55 J ζ'3 J ?_
 refine qP (j:=0) J J J J α'3 Tk Az (by rfl) ?_
 refine qD J J J J J (b_geq _ _ _ _) ?_
 refine kD J J J J J (qK J J J J ?_)
 refine cV 155 J (fun hbig=>?_) (fun hbig=>?_)
 ·
  refine qX J J J J (qX J J J J (qX J J J J (qX J J J J (rW J J J J ?_))))
  refine kL J J J J J (qR J J J J (qS (qW [4] (e':=[(4,_)]) J ?_)))
  refine qQ (qJ (cR J J (⟨o0,o1,r0,r1,m0,m1,B⟩) (by first | rfl | (first | rfl | (congr 1;done) | (congr 1 <;> first | rfl | omega | (simp;done) | (simp;omega)))) (by exact ⟨sok_more hm0 Om,sok_more hm1 Om,bok_more hB Om⟩) ?_))
  exact Tf
 refine qK J J J J (kC J J J J Tryz.isAgg55 ζ'55 Tk 0 (us:=[_,_,_,_,_,_,_,_]) Az J J ?_)
 refine qK J J J J (qK J J J J ?_)
 have sp_10:=tells_spec b o0 o1 r0 r1 B n_ hB hn_ pa pc po poc ra rc o0 r0 m0 pl N hN hm0 kd on k t u z y_ eo en ec
 refine qB J J J J J J Tryz.call22 (sp_10) Ts ?_
 rintro B2 hB2
 try simp only [Ca,Na]
 refine qV (kD J J J J J (qR J J J J (qS (qW [4] (e':=[(4,_)]) J ?_))))
 refine qQ (qJ (cR J J (⟨o0,o1,r0,r1,m0,m1,B2⟩) (by first | rfl | (first | rfl | (congr 1;done) | (congr 1 <;> first | rfl | omega | (simp;done) | (simp;omega)))) (by exact ⟨sok_more hm0 Om,sok_more hm1 Om,hB2⟩) ?_))
 exact Tf
theorem step1 (b:Nat) (o0 o1 r0 r1:Option Addr) (B:BK) (n_:Nat) (hB:BOk n_ B) (hn_:n_≤3999990) (pa:Option Addr) (pc:Nat) (po:Option Addr) (poc:Nat) (ra:Option Addr) (rc:Nat) (m0 m1:Option HA) (pl:List Int) (N:Int) (hN:N≤1900000000000) (hm0:SOk pl N m0) (hm1:SOk pl N m1) (kd on k t u z y_:Int) (es:List T3) (eo:Option Addr) (en ec:Nat) (A:HProp) (he:RdS A eo (es.flatMap enc3)) (hm:es.length=en) (hmb:en≤1500000) (hon:Int.tmod (Int.tmod on 2+2) 2=1):Spec Tryz.prog 8 [.pointer (some ⟨b,0,none⟩),.agg #[.int .i64 kd,.int .i64 on,.int .i64 k,.int .i64 t,.int .i64 u,.slice eo en ec,.int .i64 z,.int .i64 y_]] [A,tabR b o0 o1 r0 r1 B,ownP pa pc po poc o0 m0,ownP pa pc po poc o1 m1,refP ra rc r0 m0,refP ra rc r1 m1,own 1 encZ pa pc pl,own 1 encZ po poc pl,own 1 encZ ra rc pl] (fun (T2:TS)=>.bool true) (fun T2=>TOk pl (n_+1) (N+1500000) T2) (fun T2=>[A,tabR b T2.o0 T2.o1 T2.r0 T2.r1 T2.B,ownP pa pc po poc T2.o0 T2.m0,ownP pa pc po poc T2.o1 T2.m1,refP ra rc T2.r0 T2.m0,refP ra rc T2.r1 T2.m1,own 1 encZ pa pc pl,own 1 encZ po poc pl,own 1 encZ ra rc pl]):=by
 refine kS (n:=162) Tryz.func8 J J J ?_
 intro Γ w0
 simp only [argE,Ca,Na,Zd,Nat.reduceAdd]
 obtain ⟨hbl1,hbl2⟩:=bok_len hB
 have hbl3:=hB.cn
 have hbl4:=hB.fn
 refine qL (qC ((.l 0 [] (.q 1 (.done)))) Kr ?_)
 refine sG J J J J (us:=[_,_,_,_,_,_,_,_]) J ?_
 intro b3
 refine qV (qR J J J J (qS (qQ (qL (qC (.q 0 (.q 1 (.q 2 (.q 3 (.q 4 (.q 5 (.done))))))) Kr ?_)))))
 refine qG (k:=1) J J J J υ'55 J ζ'3 J ?_
 refine qP (j:=1) J J J J α'3 Tk Az (by rfl) ?_
 refine qD J J J J J (b_remT _ (by decide)) ?_
 have htm:=tmod_bds on
 refine qD J J J J J (cF _ (by exact kY Om Om)) ?_
 refine qD J J J J J (b_remT _ (by decide)) ?_
 refine qR J J J J (qS (kF 5 J (v':=.int .i64 1) (by rw [hon]) ?_))
 refine qW [0,3,5] (e':=[(0,_),(3,_),(5,_)]) J ?_
 refine qQ (qL (tab_open (b:=b) (B:=B) Tk fun ca cc wa wc fa fc ga gc=>?_))
 refine qC (.q 0 (.q 1 (.q 2 (.q 3 (.q 4 (.q 5 (.q 6 (.done)))))))) Kr ?_
 refine qK J J J J (qK J J J J (qZ J J J J (qG (k:=0) J J J J υ'43 J ζ'38 J ?_)))
 refine q_idxA (k:=1) J J J J J υ'38 ζ'29 (by first | rfl | omega) (by decide) ?_
 refine qP (j:=1) J J J J Tryz.isAgg29 Tk Az (by rfl) ?_
 refine qR J J J J (qS (qW [0,3,5,6] (e':=[(0,_),(3,_),(5,_),(6,_)]) J ?_))
 refine qQ (qL (qC (.q 0 (.q 1 (.q 2 (.q 3 (.q 4 (.q 5 (.q 6 (.done)))))))) Kr ?_))
 refine qK J J J J (qK J J J J (qZ J J J J (qG (k:=2) J J J J υ'43 J ζ'39 J ?_)))
 refine q_idxA (k:=1) J J J J J υ'39 ζ'33 (by first | rfl | omega) (by decide) ?_
 refine qP (j:=3) J J J J Tryz.isAgg33 Tk Az (by rfl) ?_
 refine qR J J J J (qS (qW [0,3,5,6,7] (e':=[(0,_),(3,_),(5,_),(6,_),(7,_)]) J ?_))
 refine qQ (qL (qL (tab_fold (b:=b) (o0:=o0) (o1:=o1) (r0:=r0) (r1:=r1) (C:=B.C) (W:=B.W) (F:=B.F) (G:=B.G) (ca:=ca) (cc:=cc) (wa:=wa) (wc:=wc) (fa:=fa) (fc:=fc) (ga:=ga) (gc:=gc) Ts J J J J ?_)))
 refine qC (.q 0 (.q 1 (.done))) Kr ?_
 refine qG (k:=0) J J J J υ'55 J ζ'3 J ?_
 refine qP (j:=0) J J J J α'3 Tk Az (by rfl) ?_
 refine qS (qQ (kV (qL (qC (.q 0 (.q 1 (.done))) Kr ?_))))
 refine qD J J J J J (cZ _ _ _ _) ?_
 refine qR J J J J (qS (qQ ?_))
 refine qF J (fun hk0=>?_) (fun hk0=>?_)
 ·
  refine qL (kM J (.q 0 (.q 1 (.q 2 (.q 5 (.q 6 (.q 7 ((.l 3 [7] ((.l 4 [7] ((.l 8 [] (.q 9 (.q 10 (.done))))))))))))))) Kr ?_)
  refine qK J J J J (qG (k:=2) J J J J υ'55 J ζ'52 J ?_)
  refine kC J J J J α'52 ζ'52 Tk 2 (us:=[_,_,_]) Az J J ?_
  refine qK J J J J (qG (k:=2) J J J J υ'55 J ζ'52 J ?_)
  refine kC J J J J α'52 ζ'52 Tk 2 (us:=[_,_,_]) Az J J ?_
  have sp_1:=own_ev pa pc po poc o1 m1 pl N hN hm1 k t u
  refine qB J J J J J J κ'15 (sp_1) Ts ?_
  rintro ⟨⟩ -
  try simp only [Ca,Na]
  refine kW J J (us:=[_,_,_]) J α'52 ζ'52 Tk 2 Az J J ?_
  refine qV ?_
  have sp_2:=Hi.num_spec (sE m1 k t u)
  refine qB J J J J J J κ'7 (sp_2) Ts ?_
  rintro ⟨⟩ -
  try simp only [Ca,Na]
  refine kW J J (us:=[_,_,_]) J α'52 ζ'52 Tk 2 Az J J ?_
  refine qV ?_
  have sp_3:=ref_ev ra rc r1 m1 pl N hN hm1 k t u
  refine qB J J J J J J Tryz.call18 (sp_3) Ts ?_
  rintro ⟨⟩ -
  try simp only [Ca,Na]
  refine qV (qD J J J J J (cZ _ _ _ _) ?_)
  refine kF 46 J (v':=.bool true) (by first | (rw [decide_eq_true rfl];done) | simp) ?_
  refine qR J J J J (qS (qW [4] (e':=[(4,_)]) J ?_))
  refine qQ (qJ (kH (qN (cR J J (⟨o0,o1,r0,r1,m0,(m1.map fun x=>hE2 x k t u),B⟩) (by first | rfl | (first | rfl | (congr 1;done) | (congr 1 <;> first | rfl | omega | (simp;done) | (simp;omega)))) (by exact ⟨sok_more hm0 Om,sok_more (sok_map hm1 k t u) Om,bok_more hB Om⟩) ?_))))
  exact Tf
 refine qL (qC (.q 0 (.q 1 (.done))) Kr ?_)
 refine qD J J J J J (cZ _ _ _ _) ?_
 refine qR J J J J (qS (qW [0,3,5,6,7,34,47] (e':=[(0,_),(3,_),(5,_),(6,_),(7,_),(34,_),(47,_)]) J ?_))
 refine qQ ?_
 refine qF J (fun hk1=>?_) (fun hk1=>?_)
 ·
  refine qL (qC ((.l 0 [] (.q 1 (.q 2 ((.l 3 [] (.q 4 ((.l 5 [] ((.l 6 [] (.q 7 (.done))))))))))))) Kr ?_)
  refine cG J J J J υ'53 ζ'52 ?_
  intro b49
  refine qV (qG (k:=5) J J J J υ'55 J ζ'53 J ?_)
  refine qP (j:=5) J J J J α'53 Tk Az (by rfl) ?_
  refine cP (A:=cells b49 0 []) Tk ?_
  refine cL (fun _ h=>own_mk (sz:=3) (enc:=enc3) (xs:=[]) (sp:=[]) (cap:=0) (Nat.le_refl _) J h) ?_
  refine cN (sz:=3) (enc:=enc3) (xs:=[]) J J J J J υ'53 τ'52 J J J (by decide) Tk Tk (by first | rfl | omega | (simp;done) | (simp;omega)) (ys:=es) (he) (by rfl) (by first | rfl | omega) (enc3_len) (enc3_one) Om (by show _*24≤_;omega) ?_
  intro ao52 cp52
  try simp only [Na]
  refine kF 52 J (v':=.slice ao52 en cp52) (by first | rfl | (congr 1;done) | (congr 1 <;> first | rfl | omega | (simp;done) | (simp;omega))) ?_
  refine qV (kB J J J J (vs:=[_,_,_]) (kQ υ'52 ω'52 (ps:=[(0,1),(1,1),(2,1)]) ⟨rfl,ζ'50,rfl,ζ'3,rfl,ζ'3,trivial⟩ rfl) ?_)
  refine kJ J J J J (cW (us:=[_,_,_]) υ'53 ζ'52 J ω'52 J J J) ?_
  intro b54
  refine qV (cN (sz:=3) (enc:=enc3) (xs:=(es)) J J J J J υ'53 τ'52 J J J (by decide) Tk Tk (by first | rfl | omega | (simp;done) | (simp;omega)) (ys:=[(0,0,(-77))]) (cJ cB) (by rfl) (by first | rfl | omega) (enc3_len) (enc3_one) Om (by show _*24≤_;omega) ?_)
  intro ao55 cp55
  refine qV (qR J J J J (qS (qW [3,6,7,8] (e':=[(3,_),(6,_),(7,_),(8,_)]) J ?_)))
  refine qQ (qL (qC (.q 0 (.q 1 (.q 2 (.q 3 (.q 4 (.q 5 ((.l 6 [] (.q 7 (.q 8 (.q 9 (.q 10 (.q 11 (.done)))))))))))))) Kr ?_))
  refine qK J J J J (qK J J J J (qG (k:=5) J J J J υ'55 J ζ'53 J ?_))
  refine qP (j:=5) J J J J α'53 Tk Az (by rfl) ?_
  refine sR J J J J υ'53 ?_
  refine cP (A:=own 3 enc3 ao55 cp55 (es++[(((0:Int),(0:Int),(-77:Int)):T3)])) Tk ?_
  refine own_fc fun wt1 wt2 wt3=>?_
  have hwt1:=wt1
  simp only [List.length_append,List.length_singleton] at hwt1
  refine q_cut_hi (h':=en) J J J J J υ'53 ζ'52 (by first | rfl | omega) Om ?_
  refine cP (A:=own 3 enc3 ao55 cp55 ((es)++([(0,0,(-77))]))) Tk ?_
  refine own_fc fun f_4a f_4b f_4c=>?_
  have sp_5:=own_evs pa pc po poc o1 m1 pl N hN hm1 es ao55 en cp55 (own 3 enc3 ao55 cp55 (es++[(((0:Int),(0:Int),(-77:Int)):T3)])) ((own_front enc3_len wt2 wt3)) (by first | rfl | exact hm | omega) Om
  refine qB J J J J J J Tryz.call10 (sp_5) Ts ?_
  rintro i hi
  try simp only [Ca,Na]
  refine qV (qK J J J J (kX J J J J J (kX J J J J J (qR J J J J (qR J J J J (qS (qW [3,7,8,9,10] (e':=[(3,_),(7,_),(8,_),(9,_),(10,_)]) J ?_)))))))
  refine qQ (qL (qC (.q 0 (.q 1 (.q 2 ((.l 3 [] (.q 4 (.q 5 (.q 6 (.q 7 (.q 8 (.done))))))))))) Kr ?_))
  refine qK J J J J (qG (k:=5) J J J J υ'55 J ζ'53 J ?_)
  refine qP (j:=5) J J J J α'53 Tk Az (by rfl) ?_
  have sp_6:=ref_evs ra rc r1 m1 pl N hN hm1 es eo en ec A (he) (by first | rfl | exact hm | omega) Om
  refine qB J J J J J J Tryz.call19 (sp_6) Ts ?_
  rintro j hj
  try simp only [Ca,Na]
  refine qV (qK J J J J (kX J J J J J (kX J J J J J (qR J J J J (qR J J J J (qS ?_))))))
  obtain rfl:=evs_uniq hm hi hj
  refine qW [3,8,9,10,11,12] (e':=[(3,_),(8,_),(9,_),(10,_),(11,_),(12,_)]) J ?_
  refine qQ (qL (qL (qC (.q 0 (.done)) Kr ?_)))
  refine qR J J J J (qS (qQ (kV ?_)))
  refine sS (α:=Nat × List T3) (fun (x_:Nat × List T3)=>match x_ with | (y,f)=>y≤en∧(f.length=en+1)∧(f[en]?=some (((0:Int),(0:Int),(-77:Int)):T3))∧(∀ j:Nat,y≤j→j < en→f[j]?=es[j]?)) (fun (x_:Nat × List T3)=>match x_ with | (y,f)=>[(8,.slice ao55 (en+1) cp55),(13,.int .i64 ((y:Nat):Int))]) (fun (x_:Nat × List T3)=>match x_ with | (y,f)=>[own 3 enc3 ao55 cp55 f]) (fun (x_:Nat × List T3)=>match x_ with | (y,f)=>en - y) [3,9,10,11,12] (er:=[(3,_),(9,_),(10,_),(11,_),(12,_)]) J (0,(es++[(((0:Int),(0:Int),(-77:Int)):T3)])) ?_ (by exact ⟨rfl,rfl,trivial⟩) (by (try dsimp only);(try simp only [Ad,Zd]);(repeat ((with_reducible apply Z2);focus (first | (with_reducible (repeat (first | exact Z0 | apply Z1));done) | (repeat (first | exact Z0 | apply Z1)))));exact Z3) ?_
  · exact ⟨Nat.zero_le _,by rw [List.length_append,hm];rfl,by rw [← hm];exact app_at _ _,fun j _ hj=>List.getElem?_append_left Om⟩
  rintro ⟨y,f⟩ ⟨hle_y,hfl,hfe,hfq⟩
  try simp only [Ca,Na]
  refine qL (qL (qC (.q 0 (.q 1 (.q 2 (.q 3 (.q 4 (.done)))))) Kr ?_))
  refine qK J J J J (qG (k:=5) J J J J υ'55 J ζ'53 J ?_)
  refine qP (j:=5) J J J J α'53 Tk Az (by rfl) ?_
  refine sR J J J J υ'53 ?_
  refine qD J J J J J (sK _ _ _ _) ?_
  refine qS (qW [3,8,9,10,11,12,13,77] (e':=[(3,_),(8,_),(9,_),(10,_),(11,_),(12,_),(13,_),(77,_)]) J ?_)
  refine qQ ?_
  refine qF J (fun hlt=>?_) (fun hlt=>?_)
  ·
   refine qH (qQ (qL (kV (qL (qL ?_)))))
   obtain ⟨p,hp⟩:=cX (l:=es) (i:=y) Om
   have hpf:f[y]?=some p:=(hfq y (Nat.le_refl _) Om).trans hp
   refine kM J (.q 0 (.q 1 (.q 2 (.q 3 (.q 4 (.q 5 (.q 6 (.q 7 (.q 8 (.q 9 (.done))))))))))) Kr ?_
   refine qK J J J J (qK J J J J (cK (sz:=2) (k:=y) (enc:=enc3) (xs:=f) J J J J J υ'53 ζ'52 hpf (by first | rfl | omega) Om Tk ?_))
   intro ib82 io82 ha82 hl82 hc82
   refine rS (j:=0) (k':=y) (us:=[_,_,_]) (enc:=enc3) (off:=io82) J J J J α'52 ζ'52 ha82 enc3_len hpf Tk (by first | rfl | exact (Ad _).symm | omega) (by rfl) J ?_
   refine qG (k:=5) J J J J υ'55 J ζ'53 J ?_
   refine qP (j:=5) J J J J α'53 Tk Az (by rfl) ?_
   refine qK J J J J (q_idxR (sz:=2) (k:=y) J J J J J υ'53 ζ'52 (he) hp enc3_len (by first | rfl | omega) Om ?_)
   intro ib87 io87 _ hd87
   refine q_loadN (vs:=[_,_,_]) J J J J α'52 ζ'52 Tk (hd87) J ?_
   refine q_neS J J J J J Kr (eqc_struct υ'52 Kr (rL J α'50 J J (sF υ'50) (rL J α'3 J J (sF υ'3) (eqf_last J α'3 J J (sF υ'3))))) ?_
   refine kF 89 J (v':=.bool (decide (p≠p))) (by first | (congr 1;done) | (congr 1;rw [Bool.eq_iff_iff];simp [Prod.ext_iff,and_assoc])) ?_
   refine kF 89 J (v':=.bool false) (by first | rfl | simp) ?_
   refine qS (qW [3,8,9,10,11,12,13,89] (e':=[(3,_),(8,_),(9,_),(10,_),(11,_),(12,_),(13,_),(89,_)]) J ?_)
   refine qQ (kN J ?_)
   refine qH (qQ (qC (.q 0 (.q 1 (.q 2 (.q 3 ((.l 4 [] (.done))))))) Kr ?_))
   refine qK J J J J (qK J J J J (kB J J J J (vs:=[_,_,_]) (kQ υ'52 ω'52 (ps:=[(0,1),(1,1),(2,1)]) ⟨rfl,ζ'50,rfl,ζ'3,rfl,ζ'3,trivial⟩ rfl) ?_))
   refine cK (sz:=2) (k:=y) (enc:=enc3) (xs:=f) J J J J J υ'53 ζ'52 hpf (by first | rfl | omega) Om Tk ?_
   intro ib93 io93 ha93 hl93 hc93
   refine sC (j:=0) (k:=y) (q:=((0,0,-78):T3)) (enc:=enc3) (off:=io93) J J J J ζ'52 (us:=[_,_,_]) J J J ha93 enc3_len hpf Tk (by first | rfl | exact (Ad _).symm | omega) (by first | decide | exact Nat.le_of_ble_eq_true J) (by rfl) ?_
   refine qV (qS (qW [3,8,9,10,11,12,13] (e':=[(3,_),(8,_),(9,_),(10,_),(11,_),(12,_),(13,_)]) J ?_))
   refine kG (qQ (qC (.q 0 (.q 1 (.q 2 (.done)))) Kr ?_))
   refine qK J J J J (qD J J J J J (cF _ (by exact kY Om Om)) ?_)
   refine qR J J J J (qS (qQ ?_))
   refine kZ (x:=(y,f)) ((y+1,f.set y (0,0,-78))) ?_ ?_ ?_ ?_
   · try dsimp only
     exact ⟨by omega,by rw [List.length_set];exact hfl,by rw [List.getElem?_set_ne Om];exact hfe,fun j h1 h2=>by rw [List.getElem?_set_ne Om];exact hfq j Om h2⟩
   · show en - (y+1) < en - y;omega
   · exact ⟨rfl,rfl,rfl,rfl,rfl,rfl,rfl,trivial⟩
   · (try simp only [Ca,Na]);exact Tf
  refine cS (qY (qY (kK (qQ (qL (qC (.q 0 (.q 1 (.q 2 (.q 3 (.q 4 ((.l 5 [] (.q 6 (.q 7 (.q 8 (.q 9 (.q 10 (.q 11 (.q 12 (.q 13 (.q 14 (.q 15 (.q 16 (.q 17 (.q 18 (.q 19 (.done)))))))))))))))))))))) Kr ?_))))))
  refine qK J J J J (qK J J J J (qD J J J J J (cZ _ _ _ _) ?_))
  refine kF 96 J (v':=.bool true) (by first | (rw [decide_eq_true rfl];done) | simp) ?_
  refine qK J J J J (qK J J J J ?_)
  have sp_7:=Hi.num_spec (evsE m1 en i)
  refine qB J J J J J J κ'7 (sp_7) Ts ?_
  rintro ⟨⟩ -
  try simp only [Ca,Na]
  refine qV (qK J J J J (qD J J J J J (cZ _ _ _ _) ?_))
  refine kF 101 J (v':=.bool true) (by first | (rw [decide_eq_true rfl];done) | simp) ?_
  refine kL J J J J J (qK J J J J (qK J J J J (qG (k:=5) J J J J υ'55 J ζ'53 J ?_)))
  refine qP (j:=5) J J J J α'53 Tk Az (by rfl) ?_
  refine sR J J J J υ'53 ?_
  refine cK (sz:=2) (k:=en) (enc:=enc3) (xs:=f) J J J J J υ'53 ζ'52 hfe (by first | rfl | omega) Om Tk ?_
  intro ib108 io108 ha108 hl108 hc108
  refine rS (j:=0) (k':=en) (us:=[_,_,_]) (enc:=enc3) (off:=io108) J J J J α'52 ζ'52 ha108 enc3_len hfe Tk (by first | rfl | exact (Ad _).symm | omega) (by rfl) J ?_
  refine kB J J J J (vs:=[_,_,_]) (kQ υ'52 ω'52 (ps:=[(0,1),(1,1),(2,1)]) ⟨rfl,ζ'50,rfl,ζ'3,rfl,ζ'3,trivial⟩ rfl) ?_
  refine q_eqS J J J J J Kr (eqc_struct υ'52 Kr (rL J α'50 J J (sF υ'50) (rL J α'3 J J (sF υ'3) (eqf_last J α'3 J J (sF υ'3))))) ?_
  refine kF 111 J (v':=.bool (decide ((((0:Int),(0:Int),(-77:Int)):T3)=(0,0,(-77))))) (by first | (congr 1;done) | (congr 1;rw [Bool.eq_iff_iff];simp [Prod.ext_iff,and_assoc])) ?_
  refine kF 111 J (v':=.bool true) (by first | (rw [decide_eq_true rfl];done) | simp) ?_
  refine kL J J J J J (qR J J J J (qS (qW [4] (e':=[(4,_)]) J ?_)))
  refine qQ (qJ (kH (qN ?_)))
  have htl:=List.length_take_le i es
  have hi1:=hi.1
  refine cR J J (⟨o0,o1,r0,r1,m0,(m1.map fun x=>hA2 x (es.take i)),B⟩) (by first | rfl | (first | rfl | (congr 1;done) | (congr 1 <;> first | rfl | omega | (simp;done) | (simp;omega)))) (by exact ⟨sok_more hm0 Om,sok_all hm1 (es.take i) Om,bok_more hB Om⟩) ?_
  exact Tf
 refine qL (qC (.q 0 (.q 1 (.done))) Kr ?_)
 refine qD J J J J J (cZ _ _ _ _) ?_
 refine qR J J J J (qS (qQ ?_))
 refine qF J (fun hk7=>?_) (fun hk7=>?_)
 ·
  refine qL (qC (.q 0 ((.l 1 [] (.q 2 (.done))))) Kr ?_)
  refine qK J J J J ?_
  have sp_8:=own_cy pa pc po poc o1 m1 pl N hN hm1
  refine qB J J J J J J Tryz.call20 (sp_8) Ts ?_
  rintro cq ⟨hc1,hc2⟩
  try simp only [Ca,Na]
  refine qV (qR J J J J (qS (qW [0,5,6,7,14] (e':=[(0,_),(5,_),(6,_),(7,_),(14,_)]) J ?_)))
  refine qQ (qL (qC (.q 0 ((.l 1 [] (.q 2 (.done))))) Kr ?_))
  refine qK J J J J ?_
  have sp_9:=ref_cy ra rc r1 m1 pl N hN hm1
  refine qB J J J J J J Tryz.call21 (sp_9) Ts ?_
  rintro dq hd1
  try simp only [Ca,Na]
  refine qV (qR J J J J (qS (qQ (qL (qL ?_)))))
  have hcd:cq.isNone=dq.isNone:=by rw [Bool.eq_iff_iff,Option.isNone_iff_eq_none,Option.isNone_iff_eq_none,hc1,hd1]
  refine qC (.q 0 (.q 1 (.q 2 (.q 3 (.q 4 (.q 5 (.q 6 (.q 7 (.q 8 (.q 9 (.q 10 ((.l 11 [] (.q 12 (.q 13 (.done)))))))))))))))) Kr ?_
  refine qK J J J J (cM J J J J υ'29 ?_)
  refine qK J J J J (cM J J J J υ'33 ?_)
  refine q_neb J J J J J υ'4 ?_
  refine kF 123 J (v':=.bool false) (by rw [hcd];simp) ?_
  refine qK J J J J (qK J J J J (q_ne_nil J J J J υ'29 ?_))
  refine qK J J J J ?_
  refine s_bool 127 J (fun hcn=>?_) (fun hcn=>?_)
  ·
   try simp only [Bool.and_eq_true,Bool.or_eq_true,Bool.not_eq_true',Bool.not_eq_false',Bool.and_eq_false_iff,Bool.or_eq_false_iff,decide_eq_true_eq,decide_eq_false_iff_not] at hcn
   have hcn2:cq≠none:=by intro e;rw [e] at hcn;simp at hcn
   refine qK J J J J (qK J J J J (l_eqC (j:=Tryz.t48) J J J J J υ'29 Kr (by decide) (eqC_hh (m:=m1) Tk Tk (fun e=>hcn2 (hc1.2 e)) hcn2 (hc2 hcn2)) ?_))
   refine qV (kL J J J J J (kD J J J J J (qS (qW [0,5,14,15,132] (e':=[(0,_),(5,_),(14,_),(15,_),(132,_)]) J ?_))))
   refine qQ (kN J ?_)
   refine qH (qQ (qL (tab_open (b:=b) (B:=B) Tk fun ca cc wa wc fa fc ga gc=>?_)))
   refine qC (.q 0 (.q 1 (.q 2 (.q 3 (.q 4 (.q 5 (.q 6 ((.l 7 [] (.done)))))))))) Kr ?_
   refine qK J J J J (qK J J J J (qD J J J J J (b_sub' _ (by exact kY Om Om)) ?_))
   refine kF 135 J (v':=.int .i64 0) (by rfl) ?_
   refine qK J J J J (qZ J J J J (qG (k:=0) J J J J υ'43 J ζ'38 J ?_))
   refine q_idxA (k:=0) J J J J J υ'38 ζ'29 (by first | rfl | omega) (by decide) ?_
   refine kR (j:=0) J J J J ζ'29 (us:=[_]) J J J Tk Az (by first | decide | (simp;done) | omega) ?_
   simp only [setL,List.set]
   refine qV (qS (qW [0,5,15] (e':=[(0,_),(5,_),(15,_)]) J ?_))
   refine qQ (qL (qC (.q 0 (.q 1 (.q 2 (.q 3 (.q 4 (.q 5 (.q 6 ((.l 7 [] (.done)))))))))) Kr ?_))
   refine qK J J J J (qK J J J J (qD J J J J J (b_sub' _ (by exact kY Om Om)) ?_))
   refine kF 142 J (v':=.int .i64 0) (by rfl) ?_
   refine qK J J J J (qZ J J J J (qG (k:=2) J J J J υ'43 J ζ'39 J ?_))
   refine q_idxA (k:=0) J J J J J υ'39 ζ'33 (by first | rfl | omega) (by decide) ?_
   refine kR (j:=2) J J J J ζ'33 (us:=[_]) J J J Tk Az (by first | decide | (simp;done) | omega) ?_
   simp only [setL,List.set]
   refine qV (qS (qW [] (e':=[]) J ?_))
   refine qQ (qL (qC (.q 0 (.done)) Kr ?_))
   refine qR J J J J (qS (qQ (qJ (kH (qN (tab_fold (b:=b) (o0:=cq) (o1:=o1) (r0:=dq) (r1:=r1) (C:=B.C) (W:=B.W) (F:=B.F) (G:=B.G) (ca:=ca) (cc:=cc) (wa:=wa) (wc:=wc) (fa:=fa) (fc:=fc) (ga:=ga) (gc:=gc) Ts J J J J ?_))))))
   refine cR J J (⟨cq,o1,dq,r1,m1,m1,B⟩) (by first | rfl | (first | rfl | (congr 1;done) | (congr 1 <;> first | rfl | omega | (simp;done) | (simp;omega)))) (by exact ⟨sok_more hm1 Om,sok_more hm1 Om,bok_more hB Om⟩) ?_
   exact Tf
  try simp only [Bool.and_eq_true,Bool.or_eq_true,Bool.not_eq_true',Bool.not_eq_false',Bool.and_eq_false_iff,Bool.or_eq_false_iff,decide_eq_true_eq,decide_eq_false_iff_not] at hcn
  refine qX J J J J (qX J J J J (rW J J J J ?_))
  refine kD J J J J J (kD J J J J J (qS (qW [0,5,14,15,132] (e':=[(0,_),(5,_),(14,_),(15,_),(132,_)]) J ?_)))
  refine qQ (kN J ?_)
  refine qH (qQ (qL (tab_open (b:=b) (B:=B) Tk fun ca cc wa wc fa fc ga gc=>?_)))
  refine qC (.q 0 (.q 1 (.q 2 (.q 3 (.q 4 (.q 5 (.q 6 ((.l 7 [] (.done)))))))))) Kr ?_
  refine qK J J J J (qK J J J J (qD J J J J J (b_sub' _ (by exact kY Om Om)) ?_))
  refine kF 135 J (v':=.int .i64 0) (by rfl) ?_
  refine qK J J J J (qZ J J J J (qG (k:=0) J J J J υ'43 J ζ'38 J ?_))
  refine q_idxA (k:=0) J J J J J υ'38 ζ'29 (by first | rfl | omega) (by decide) ?_
  refine kR (j:=0) J J J J ζ'29 (us:=[_]) J J J Tk Az (by first | decide | (simp;done) | omega) ?_
  simp only [setL,List.set]
  refine qV (qS (qW [0,5,15] (e':=[(0,_),(5,_),(15,_)]) J ?_))
  refine qQ (qL (qC (.q 0 (.q 1 (.q 2 (.q 3 (.q 4 (.q 5 (.q 6 ((.l 7 [] (.done)))))))))) Kr ?_))
  refine qK J J J J (qK J J J J (qD J J J J J (b_sub' _ (by exact kY Om Om)) ?_))
  refine kF 142 J (v':=.int .i64 0) (by rfl) ?_
  refine qK J J J J (qZ J J J J (qG (k:=2) J J J J υ'43 J ζ'39 J ?_))
  refine q_idxA (k:=0) J J J J J υ'39 ζ'33 (by first | rfl | omega) (by decide) ?_
  refine kR (j:=2) J J J J ζ'33 (us:=[_]) J J J Tk Az (by first | decide | (simp;done) | omega) ?_
  simp only [setL,List.set]
  refine qV (qS (qW [] (e':=[]) J ?_))
  refine qQ (qL (qC (.q 0 (.done)) Kr ?_))
  refine qR J J J J (qS (qQ (qJ (kH (qN (tab_fold (b:=b) (o0:=cq) (o1:=o1) (r0:=dq) (r1:=r1) (C:=B.C) (W:=B.W) (F:=B.F) (G:=B.G) (ca:=ca) (cc:=cc) (wa:=wa) (wc:=wc) (fa:=fa) (fc:=fc) (ga:=ga) (gc:=gc) Ts J J J J ?_))))))
  refine cR J J (⟨cq,o1,dq,r1,m1,m1,B⟩) (by first | rfl | (first | rfl | (congr 1;done) | (congr 1 <;> first | rfl | omega | (simp;done) | (simp;omega)))) (by exact ⟨sok_more hm1 Om,sok_more hm1 Om,bok_more hB Om⟩) ?_
  exact Tf
 refine qH (kG (qQ (qL (qC (.q 0 (.q 1 (.q 2 (.q 3 (.q 4 (.q 5 (.q 6 (.q 7 (.q 8 (.q 9 (.q 10 (.q 11 (.q 12 ((.l 13 [] (.q 14 (.q 15 (.done)))))))))))))))))) Kr ?_))))
 refine qG (k:=0) J J J J υ'55 J ζ'3 J ?_
 refine qP (j:=0) J J J J α'3 Tk Az (by rfl) ?_
 refine qD J J J J J (sK _ _ _ _) ?_
 refine qK J J J J ?_
 refine cV 150 J (fun hneg=>?_) (fun hneg=>?_)
 ·
  refine qX J J J J (qX J J J J (qX J J J J (kL J J J J J (qK J J J J (qX J J J J (qX J J J J (qX J J J J (qX J J J J ?_))))))))
  refine rW J J J J ?_
  refine kL J J J J J (qR J J J J (qS (qW [4] (e':=[(4,_)]) J ?_)))
  refine qQ (qJ (cR J J (⟨o0,o1,r0,r1,m0,m1,B⟩) (by first | rfl | (first | rfl | (congr 1;done) | (congr 1 <;> first | rfl | omega | (simp;done) | (simp;omega)))) (by exact ⟨sok_more hm0 Om,sok_more hm1 Om,bok_more hB Om⟩) ?_))
  exact Tf
 refine qG (k:=0) J J J J υ'55 J ζ'3 J ?_
 refine qP (j:=0) J J J J α'3 Tk Az (by rfl) ?_
 refine qD J J J J J (b_geq _ _ _ _) ?_
 refine kD J J J J J (qK J J J J ?_)
 refine cV 155 J (fun hbig=>?_) (fun hbig=>?_)
 ·
  refine qX J J J J (qX J J J J (qX J J J J (qX J J J J (rW J J J J ?_))))
  refine kL J J J J J (qR J J J J (qS (qW [4] (e':=[(4,_)]) J ?_)))
  refine qQ (qJ (cR J J (⟨o0,o1,r0,r1,m0,m1,B⟩) (by first | rfl | (first | rfl | (congr 1;done) | (congr 1 <;> first | rfl | omega | (simp;done) | (simp;omega)))) (by exact ⟨sok_more hm0 Om,sok_more hm1 Om,bok_more hB Om⟩) ?_))
  exact Tf
 refine qK J J J J (kC J J J J Tryz.isAgg55 ζ'55 Tk 0 (us:=[_,_,_,_,_,_,_,_]) Az J J ?_)
 refine qK J J J J (qK J J J J ?_)
 have sp_10:=tells_spec b o0 o1 r0 r1 B n_ hB hn_ pa pc po poc ra rc o1 r1 m1 pl N hN hm1 kd on k t u z y_ eo en ec
 refine qB J J J J J J Tryz.call22 (sp_10) Ts ?_
 rintro B2 hB2
 try simp only [Ca,Na]
 refine qV (kD J J J J J (qR J J J J (qS (qW [4] (e':=[(4,_)]) J ?_))))
 refine qQ (qJ (cR J J (⟨o0,o1,r0,r1,m0,m1,B2⟩) (by first | rfl | (first | rfl | (congr 1;done) | (congr 1 <;> first | rfl | omega | (simp;done) | (simp;omega)))) (by exact ⟨sok_more hm0 Om,sok_more hm1 Om,hB2⟩) ?_))
 exact Tf
theorem step_spec (b:Nat) (o0 o1 r0 r1:Option Addr) (B:BK) (n_:Nat) (hB:BOk n_ B) (hn_:n_≤3999990) (pa:Option Addr) (pc:Nat) (po:Option Addr) (poc:Nat) (ra:Option Addr) (rc:Nat) (m0 m1:Option HA) (pl:List Int) (N:Int) (hN:N≤1900000000000) (hm0:SOk pl N m0) (hm1:SOk pl N m1) (kd on k t u z y_:Int) (es:List T3) (eo:Option Addr) (en ec:Nat) (A:HProp) (he:RdS A eo (es.flatMap enc3)) (hm:es.length=en) (hmb:en≤1500000):Spec Tryz.prog 8 [.pointer (some ⟨b,0,none⟩),.agg #[.int .i64 kd,.int .i64 on,.int .i64 k,.int .i64 t,.int .i64 u,.slice eo en ec,.int .i64 z,.int .i64 y_]] [A,tabR b o0 o1 r0 r1 B,ownP pa pc po poc o0 m0,ownP pa pc po poc o1 m1,refP ra rc r0 m0,refP ra rc r1 m1,own 1 encZ pa pc pl,own 1 encZ po poc pl,own 1 encZ ra rc pl] (fun (T2:TS)=>.bool true) (fun T2=>TOk pl (n_+1) (N+1500000) T2) (fun T2=>[A,tabR b T2.o0 T2.o1 T2.r0 T2.r1 T2.B,ownP pa pc po poc T2.o0 T2.m0,ownP pa pc po poc T2.o1 T2.m1,refP ra rc T2.r0 T2.m0,refP ra rc T2.r1 T2.m1,own 1 encZ pa pc pl,own 1 encZ po poc pl,own 1 encZ ra rc pl]):=by
  rcases tmod_two on with h | h
  · exact step0 b o0 o1 r0 r1 B n_ hB hn_ pa pc po poc ra rc m0 m1 pl N hN hm0 hm1 kd on k t u z y_ es eo en ec A he hm hmb h
  · exact step1 b o0 o1 r0 r1 B n_ hB hn_ pa pc po poc ra rc m0 m1 pl N hN hm0 hm1 kd on k t u z y_ es eo en ec A he hm hmb h
end Go.Ab.Rh
set_option linter.unusedVariables false
set_option linter.unusedSimpArgs false
set_option maxRecDepth 100000
namespace Go.Ab.Rh
open Go Go.Proofs Go.Ab Go.Ab.Fe Go.Ab.Vc Go.Ab.Dj Go.Ab.Rv Go.Ab.Hi
abbrev ST8:=Int × Int × T3 × (Option Addr × Nat × List T3) × Int × Int
def enc8 (x:ST8):List Value:=[.int .i64 x.1,.int .i64 x.2.1,.int .i64 x.2.2.1.1,.int .i64 x.2.2.1.2.1,.int .i64 x.2.2.1.2.2,.slice x.2.2.2.1.1 x.2.2.2.1.2.2.length x.2.2.2.1.2.1,.int .i64 x.2.2.2.2.1,.int .i64 x.2.2.2.2.2]
theorem enc8_len:∀ x,(enc8 x).length=8:=fun _=>rfl
theorem tok_eq {pl:List Int} {n n':Nat} {N N':Int} {T:TS} (h:TOk pl n N T) (hn:n=n') (hN:N=N'):TOk pl n' N' T:=by subst hn hN;exact h
theorem sok_none {pl:List Int} {N:Int}:SOk pl N none:=fun x h=>by cases h
theorem sok_new {th va vo lk:Int} {pl:List Int} (hok:OkS th va vo lk pl):SOk pl 0 (some (hNew th va vo lk pl,[])):=fun x h=>by
  obtain rfl:=Option.some.inj h
  exact ⟨new_sinv hok,rel_new,rfl,Int.le_refl _⟩
/-- What New makes. -/
def mN (th va vo lk:Int) (pl:List Int):Option HA:=if OkS th va vo lk pl then some (hNew th va vo lk pl,[]) else none
def plN (th va vo lk:Int) (pl:List Int):List Int:=if OkS th va vo lk pl then pl else []
def erN (th va vo lk:Int) (pl:List Int):Int:=if OkS th va vo lk pl then 0 else 5
theorem sok_mN {th va vo lk:Int} {pl:List Int}:SOk (plN th va vo lk pl) 0 (mN th va vo lk pl):=by
  unfold plN mN
  by_cases h:OkS th va vo lk pl
  · rw [if_pos h,if_pos h];exact sok_new h
  · rw [if_neg h,if_neg h];exact sok_none
section
variable {w0:World} {ds:List Deferred} {n:Nat} {e:Env} {Γ Γ':List HProp} {X:Act→World→Prop} {pa po ra:Option Addr} {pc poc rc:Nat}
theorem own_zero9 (b:Nat) (tk:Take Γ (zc b) Γ') (k:Le (St w0 ds n e (ownP pa pc po poc (some ⟨b,0,none⟩) none::Γ')) X):Le (St w0 ds n e Γ) X:=cL (fun h s=>by
  obtain ⟨h1,l1,a1,s1⟩:=tk h s
  exact ⟨h1,l1,.inr ⟨b,rfl,a1⟩,s1⟩) k
theorem ref_none9 (k:Le (St w0 ds n e (refP ra rc none none::Γ)) X):Le (St w0 ds n e Γ) X:=cL (fun h s=>sat_free (A:=refP ra rc none none) rfl s) k
end
theorem own_new (th va vo lk:Int) (pl:List Int) (ao:Option Addr) (n c:Nat) (A:HProp) (hr:RdS A ao (pl.flatMap encZ)) (hn:pl.length=n) (hb:n≤4000000):Spec Tryz.prog 5 [.agg #[.int .i64 th,.int .i64 va,.int .i64 vo,.int .i64 lk,.slice ao n c]] [A] (fun (r:Option Addr × (Option Addr × Nat) × Option Addr × Nat)=>.tuple #[.pointer r.1,.int .i64 (erN th va vo lk pl)]) (fun r=>r.1=none↔(mN th va vo lk pl)=none) (fun r=>[A,own 1 encZ r.2.1.1 r.2.1.2 (plN th va vo lk pl),own 1 encZ r.2.2.1 r.2.2.2 (plN th va vo lk pl),ownP r.2.1.1 r.2.1.2 r.2.2.1 r.2.2.2 r.1 (mN th va vo lk pl)]):=by
  unfold erN mN plN
  by_cases hok:OkS th va vo lk pl
  · simp only [if_pos hok]
    exact (Hi.new_spec th va vo lk pl ao n c A hr hn hb hok).conseq (fun Γ hp s=>s) (fun y hy=>⟨(some ⟨y.1,0,none⟩,y.2.1,y.2.2.1,y.2.2.2),rfl,⟨fun h=>(by cases h),fun h=>(by cases h)⟩,fun Γ hp s=>by
      obtain ⟨h1,l1,a1,h2,l2,a2,h3,l3,a3,h4,l4,a4,s5⟩:=s
      exact ⟨h1,l1,a1,h2,l2,a2,h3,l3,a3,h4,l4,⟨y.1,rfl,a4⟩,s5⟩⟩)
  · simp only [if_neg hok]
    exact (Hi.newbad_spec th va vo lk pl ao n c A hr hn hb hok).conseq (fun Γ hp s=>s) (fun y hy=>⟨(none,(none,0),none,0),rfl,(by simp),fun Γ hp s=>by
      obtain ⟨h1,l1,a1,s5⟩:=s
      exact ⟨h1,l1,a1,sY (sz:=1) (enc:=encZ) (sY (sz:=1) (enc:=encZ) (sat_free (A:=ownP none 0 none 0 none none) (.inl J) s5))⟩⟩)
theorem ref_new (th va vo lk:Int) (pl:List Int) (ao:Option Addr) (n c:Nat) (A:HProp) (hr:RdS A ao (pl.flatMap encZ)) (hn:pl.length=n) (hb:n≤4000000):Spec Tryz.prog 6 [.agg #[.int .i64 th,.int .i64 va,.int .i64 vo,.int .i64 lk,.slice ao n c]] [A] (fun (r:Option Addr × Option Addr × Nat)=>.tuple #[.pointer r.1,.int .i64 (erN th va vo lk pl)]) (fun r=>r.1=none↔(mN th va vo lk pl)=none) (fun r=>[A,own 1 encZ r.2.1 r.2.2 (plN th va vo lk pl),refP r.2.1 r.2.2 r.1 (mN th va vo lk pl)]):=by
  unfold erN mN plN
  by_cases hok:OkS th va vo lk pl
  · simp only [if_pos hok]
    exact (rnew_spec th va vo lk pl ao n c A hr hn hb hok).conseq (fun Γ hp s=>s) (fun y hy=>⟨(some ⟨y.1,0,none⟩,y.2.1,y.2.2),rfl,⟨fun h=>(by cases h),fun h=>(by cases h)⟩,fun Γ hp s=>by
      obtain ⟨h1,l1,a1,h2,l2,a2,h4,l4,a4,s5⟩:=s
      exact ⟨h1,l1,a1,h2,l2,a2,h4,l4,⟨y.1,rfl,a4⟩,s5⟩⟩)
  · simp only [if_neg hok]
    exact (rnewbad_spec th va vo lk pl ao n c A hr hn hb hok).conseq (fun Γ hp s=>s) (fun y hy=>⟨(none,none,0),rfl,(by simp),fun Γ hp s=>by
      obtain ⟨h1,l1,a1,s5⟩:=s
      exact ⟨h1,l1,a1,sY (sz:=1) (enc:=encZ) (sat_free (A:=refP none 0 none none) J s5)⟩⟩)
theorem plays_spec (th va vo lk:Int) (pl:List Int) (ao:Option Addr) (n c:Nat) (A:HProp) (hr:RdS A ao (pl.flatMap encZ)) (hn:pl.length=n) (hb:n≤4000000) (L:List ST8) (so:Option Addr) (m sc:Nat) (hs:RdS A so (L.flatMap enc8)) (hL:∀ x∈L,RdS A x.2.2.2.1.1 (x.2.2.2.1.2.2.flatMap enc3)∧x.2.2.2.1.2.2.length≤1500000) (hm:L.length=m) (hmb:m≤1200000):Spec Tryz.prog 3 [.agg #[.int .i64 th,.int .i64 va,.int .i64 vo,.int .i64 lk,.slice ao n c,.slice so m sc]] [A] (fun (_:Unit)=>.bool true) (fun _=>True) (fun _=>[A]):=by
 refine kS (n:=117) Tryz.func3 J J J ?_
 intro Γ w0
 simp only [argE,Ca,Na,Zd,Nat.reduceAdd]
 refine qL (qC ((.l 0 [] (.q 1 (.done)))) Kr ?_)
 refine sG J J J J (us:=[_,_,_,_,_,_]) J ?_
 intro b1
 refine qV (qR J J J J (qS (qQ (qL (qL (qC ((.l 0 [] (.q 1 (.done)))) Kr ?_))))))
 refine qB J J J J J J Tryz.call4 (Hi.works_spec) Ts ?_
 rintro ⟨⟩ -
 try simp only [Ca,Na]
 refine qV (rK J J J J ?_)
 refine kF 14 J (v':=.bool false) J ?_
 refine qS (qQ (kN J ?_))
 refine qH (qQ (qL (qC (.q 0 (.q 1 ((.l 2 [] ((.l 3 [] (.done))))))) Kr ?_)))
 refine qG (k:=0) J J J J υ'27 J ζ'24 J ?_
 refine kC J J J J α'24 ζ'24 Tk 0 (us:=[_,_,_,_,_]) Az J J ?_
 refine cY J J J Tryz.zeroValue24 (zs:=[.int .i64 0,.int .i64 0,.int .i64 0,.int .i64 0,.slice none 0 0]) J ?_
 intro b3
 refine qV (kR (j:=0) J J J J ζ'24 (us:=[_,_,_,_,_]) J J J Tk Az (by first | decide | (simp;done) | omega) ?_)
 simp only [setL,List.set]
 refine qV (qS (qW [1,3] (e':=[(1,_),(3,_)]) J ?_))
 refine qQ (qL (qC ((.l 0 [] (.q 1 (.q 2 (.q 3 ((.l 4 [] (.q 5 ((.l 6 [] (.done))))))))))) Kr ?_))
 refine cG J J J J υ'22 ζ'3 ?_
 intro b17
 refine qV (qG (k:=0) J J J J υ'27 J ζ'24 J ?_)
 refine qG (k:=4) J J J J υ'24 J ζ'22 J ?_
 refine qP (j:=4) J J J J α'22 Tk Az (by rfl) ?_
 refine cP (A:=cells b17 0 []) Tk ?_
 refine cL (fun _ h=>own_mk (sz:=1) (enc:=encZ) (xs:=[]) (sp:=[]) (cap:=0) (Nat.le_refl _) J h) ?_
 refine cN (sz:=1) (enc:=encZ) (xs:=[]) J J J J J υ'22 τ'3 J J J (by decide) Tk Tk (by first | rfl | omega | (simp;done) | (simp;omega)) (ys:=pl) (hr) (by rfl) (by first | rfl | omega) (encZ_len) (encZ_one) Om (by show _*8≤_;omega) ?_
 intro ao21 cp21
 try simp only [Na]
 refine kF 21 J (v':=.slice ao21 n cp21) (by first | rfl | (congr 1;done) | (congr 1 <;> first | rfl | omega | (simp;done) | (simp;omega))) ?_
 refine qV (qG (k:=4) J J J J υ'24 J ζ'22 J ?_)
 refine kR (j:=4) J J J J ζ'22 (us:=[_]) J J J Tk Az (by first | decide | (simp;done) | omega) ?_
 simp only [setL,List.set]
 refine qV (qS (qW [1,3] (e':=[(1,_),(3,_)]) J ?_))
 refine qQ (qL (qC (.q 0 ((.l 1 [] (.q 2 (.q 3 (.q 4 (.q 5 (.q 6 (.done))))))))) Kr ?_))
 refine kC J J J J α'24 ζ'24 Tk 0 (us:=[_,_,_,_,_]) Az J J ?_
 refine cP (A:=own 1 encZ ao21 cp21 (pl)) Tk ?_
 refine own_fc fun f_1a f_1b f_1c=>?_
 have sp_2:=own_new th va vo lk (pl) ao21 n cp21 (own 1 encZ ao21 cp21 (pl)) (rC encZ_len (fun h=>(f_1b h).1) f_1c) Ln Om
 refine qB J J J J J J Tryz.call5 (sp_2) Ts ?_
 rintro ⟨d,⟨dpa,dpc⟩,dpo,dpoc⟩ hd
 try simp only [Ca,Na]
 refine qV (qK J J J J (kX J J J J J (kX J J J J J (qR J J J J (qR J J J J (qS (qW [1,3,4,5] (e':=[(1,_),(3,_),(4,_),(5,_)]) J ?_)))))))
 refine qQ (qL (qC (.q 0 (.q 1 ((.l 2 [] (.q 3 (.q 4 (.q 5 (.q 6 (.q 7 (.done)))))))))) Kr ?_))
 refine qG (k:=0) J J J J υ'27 J ζ'24 J ?_
 refine kC J J J J α'24 ζ'24 Tk 0 (us:=[_,_,_,_,_]) Az J J ?_
 have sp_3:=ref_new th va vo lk pl ao n c A (hr) Ln Om
 refine qB J J J J J J Tryz.call6 (sp_3) Ts ?_
 rintro ⟨u,upa,upc⟩ hu
 try simp only [Ca,Na]
 refine qV (qK J J J J (kX J J J J J (kX J J J J J (qR J J J J (qR J J J J (qS (qW [1,3,4,5,6,7] (e':=[(1,_),(3,_),(4,_),(5,_),(6,_),(7,_)]) J ?_)))))))
 refine qQ (qL (qL ?_))
 have hdu:d.isNone=u.isNone:=by rw [Bool.eq_iff_iff,Option.isNone_iff_eq_none,Option.isNone_iff_eq_none,hd,hu]
 refine qC (.q 0 ((.l 1 [] (.q 2 (.q 3 (.q 4 (.q 5 (.q 6 (.q 7 (.q 8 (.q 9 (.q 10 (.done))))))))))))) Kr ?_
 refine qK J J J J ?_
 have sp_4:=Hi.num_spec (erN th va vo lk pl)
 refine qB J J J J J J κ'7 (sp_4) Ts ?_
 rintro ⟨⟩ -
 try simp only [Ca,Na]
 refine qV (qK J J J J (qD J J J J J (b_neq _ _ _ _) ?_))
 refine kF 37 J (v':=.bool false) (by simp) ?_
 refine qK J J J J (qK J J J J (cM J J J J υ'29 ?_))
 refine qK J J J J (cM J J J J υ'33 ?_)
 refine q_neb J J J J J υ'4 ?_
 refine kF 43 J (v':=.bool false) (by rw [hdu];simp) ?_
 refine kD J J J J J (qS (qW [1,3,4,6,44] (e':=[(1,_),(3,_),(4,_),(6,_),(44,_)]) J ?_))
 refine qQ (kN J ?_)
 refine qH (qQ (qL (qL (qC (.q 0 (.done)) Kr ?_))))
 refine qR J J J J (qS (qQ (kV ?_)))
 refine sS (α:=Nat × List Int) (fun (x_:Nat × List Int)=>match x_ with | (z,f)=>z≤n∧(f.length=n)∧(∀ j:Nat,z≤j→j < n→f[j]?=pl[j]?)) (fun (x_:Nat × List Int)=>match x_ with | (z,f)=>[(8,.int .i64 ((z:Nat):Int))]) (fun (x_:Nat × List Int)=>match x_ with | (z,f)=>[cells b3 0 [.int .i64 th,.int .i64 va,.int .i64 vo,.int .i64 lk,.slice ao21 n cp21],own 1 encZ ao21 cp21 f]) (fun (x_:Nat × List Int)=>match x_ with | (z,f)=>n - z) [1,3,4,6] (er:=[(1,_),(3,_),(4,_),(6,_)]) J (0,pl) ?_ (by exact ⟨rfl,trivial⟩) (by (try dsimp only);(try simp only [Ad,Zd]);(repeat ((with_reducible apply Z2);focus (first | (with_reducible (repeat (first | exact Z0 | apply Z1));done) | (repeat (first | exact Z0 | apply Z1)))));exact Z3) ?_
 · exact ⟨Nat.zero_le _,hn,fun j _ hj=>rfl⟩
 rintro ⟨z,f⟩ ⟨hle_z,hfl,hfq⟩
 try simp only [Ca,Na]
 refine qL (qL (qC (.q 0 (.q 1 (.q 2 (.q 3 (.q 4 (.done)))))) Kr ?_))
 refine qK J J J J (qG (k:=4) J J J J υ'24 J ζ'22 J ?_)
 refine qP (j:=4) J J J J α'22 Tk Az (by rfl) ?_
 refine sR J J J J υ'22 ?_
 refine qD J J J J J (sK _ _ _ _) ?_
 refine qS (qW [1,3,4,6,8,49] (e':=[(1,_),(3,_),(4,_),(6,_),(8,_),(49,_)]) J ?_)
 refine qQ ?_
 refine qF J (fun hltz=>?_) (fun hltz=>?_)
 ·
  refine qH (qQ (qL (kV (qL (qL ?_)))))
  obtain ⟨p,hp⟩:=cX (l:=pl) (i:=z) Om
  have hpf:f[z]?=some p:=(hfq z (Nat.le_refl _) Om).trans hp
  refine kM J (.q 0 (.q 1 (.q 2 (.q 3 (.q 4 (.q 5 (.q 6 (.q 7 (.q 8 (.q 9 (.q 10 (.q 11 (.done))))))))))))) Kr ?_
  refine qG (k:=4) J J J J υ'24 J ζ'22 J ?_
  refine qP (j:=4) J J J J α'22 Tk Az (by rfl) ?_
  refine qK J J J J (cK (sz:=0) (k:=z) (enc:=encZ) (xs:=f) J J J J J υ'22 ζ'3 hpf (by first | rfl | omega) Om Tk ?_)
  intro ib55 io55 ha55 hl55 hc55
  refine cQ (v:=(.int .i64 p)) (j:=0) (k':=z) (enc:=encZ) (off:=io55) J J J J α'3 ha55 encZ_len hpf Tk (by first | rfl | exact (Ad _).symm | omega) (by rfl) ?_
  refine qG (k:=0) J J J J υ'27 J ζ'24 J ?_
  refine qG (k:=4) J J J J υ'24 J ζ'22 J ?_
  refine qP (j:=4) J J J J α'22 Tk Az (by rfl) ?_
  refine qK J J J J (q_idxR (sz:=0) (k:=z) J J J J J υ'22 ζ'3 (hr) hp encZ_len (by first | rfl | omega) Om ?_)
  intro ib61 io61 _ hd61
  refine q_load J J J J α'3 Tk (hd61 0 (.int .i64 p) J) ?_
  refine qD J J J J J (b_neq _ _ _ _) ?_
  refine kF 63 J (v':=.bool false) (by first | rfl | simp) ?_
  refine qS (qW [1,3,4,6,8,63] (e':=[(1,_),(3,_),(4,_),(6,_),(8,_),(63,_)]) J ?_)
  refine qQ (kN J ?_)
  refine qH (qQ (qC (.q 0 (.q 1 (.q 2 (.q 3 ((.l 4 [] (.done))))))) Kr ?_))
  refine qG (k:=4) J J J J υ'24 J ζ'22 J ?_
  refine qP (j:=4) J J J J α'22 Tk Az (by rfl) ?_
  refine qK J J J J (cK (sz:=0) (k:=z) (enc:=encZ) (xs:=f) J J J J J υ'22 ζ'3 hpf (by first | rfl | omega) Om Tk ?_)
  intro ib67 io67 ha67 hl67 hc67
  refine sC (j:=0) (k:=z) (q:=1) (enc:=encZ) (off:=io67) J J J J ζ'3 (us:=[_]) J J J ha67 encZ_len hpf Tk (by first | rfl | exact (Ad _).symm | omega) (by first | decide | exact Nat.le_of_ble_eq_true J) (by rfl) ?_
  refine qV (qS (qW [1,3,4,6,8] (e':=[(1,_),(3,_),(4,_),(6,_),(8,_)]) J ?_))
  refine kG (qQ (qC (.q 0 (.q 1 (.q 2 (.done)))) Kr ?_))
  refine qK J J J J (qD J J J J J (cF _ (by exact kY Om Om)) ?_)
  refine qR J J J J (qS (qQ ?_))
  refine kZ (x:=(z,f)) ((z+1,f.set z 1)) ?_ ?_ ?_ ?_
  · try dsimp only
    exact ⟨by omega,by rw [List.length_set];exact hfl,fun j h1 h2=>by rw [List.getElem?_set_ne Om];exact hfq j Om h2⟩
  · show n - (z+1) < n - z;omega
  · exact ⟨rfl,rfl,rfl,rfl,rfl,trivial⟩
  · (try simp only [Ca,Na]);exact Tf
 refine cS (qY (qY (kK (qQ (qL (qC (.q 0 ((.l 1 [] (.q 2 (.done))))) Kr ?_))))))
 refine kB J J J J (vs:=[_,_,_,_,_,_,_,_]) (kQ υ'43 Tryz.zeroValue43 (ps:=[(0,2),(2,2),(4,1),(5,1),(6,1),(7,1)]) ⟨rfl,ζ'38,rfl,ζ'39,rfl,ζ'40,rfl,ζ'40,rfl,ζ'41,rfl,ζ'41,trivial⟩ rfl) ?_
 refine sG J J J J (us:=[_,_,_,_,_,_,_,_]) J ?_
 intro b69
 refine qV (qR J J J J (qS (qW [1,4,6,9] (e':=[(1,_),(4,_),(6,_),(9,_)]) J ?_)))
 refine qQ (qL (qC (.q 0 (.q 1 (.q 2 (.q 3 (.q 4 ((.l 5 [] (.done)))))))) Kr ?_))
 refine qK J J J J (qK J J J J (qZ J J J J (qG (k:=0) J J J J υ'43 J ζ'38 J ?_)))
 refine q_idxA (k:=0) J J J J J υ'38 ζ'29 (by first | rfl | omega) (by decide) ?_
 refine kR (j:=0) J J J J ζ'29 (us:=[_]) J J J Tk Az (by first | decide | (simp;done) | omega) ?_
 simp only [setL,List.set]
 refine qV (qS (qW [1,6,9] (e':=[(1,_),(6,_),(9,_)]) J ?_))
 refine qQ (qL (qC (.q 0 (.q 1 ((.l 2 [] (.q 3 (.q 4 (.q 5 ((.l 6 [] (.done)))))))))) Kr ?_))
 refine qK J J J J (kB J J J J (vs:=[_,_,_,_]) (kQ υ'48 ω'48 (ps:=[(0,1),(1,1),(2,1),(3,1)]) ⟨rfl,ζ'44,rfl,ζ'3,rfl,ζ'45,rfl,ζ'46,trivial⟩ rfl) ?_)
 refine sG J J J J (us:=[_,_,_,_]) J ?_
 intro b77
 refine qV (qZ J J J J (qG (k:=0) J J J J υ'43 J ζ'38 J ?_))
 refine q_idxA (k:=1) J J J J J υ'38 ζ'29 (by first | rfl | omega) (by decide) ?_
 refine kR (j:=1) J J J J ζ'29 (us:=[_]) J J J Tk Az (by first | decide | (simp;done) | omega) ?_
 simp only [setL,List.set]
 refine qV (qS (qW [1,6,9] (e':=[(1,_),(6,_),(9,_)]) J ?_))
 refine qQ (qL (qC (.q 0 (.q 1 (.q 2 (.q 3 (.q 4 ((.l 5 [] (.done)))))))) Kr ?_))
 refine qK J J J J (qK J J J J (qZ J J J J (qG (k:=2) J J J J υ'43 J ζ'39 J ?_)))
 refine q_idxA (k:=0) J J J J J υ'39 ζ'33 (by first | rfl | omega) (by decide) ?_
 refine kR (j:=2) J J J J ζ'33 (us:=[_]) J J J Tk Az (by first | decide | (simp;done) | omega) ?_
 simp only [setL,List.set]
 refine qV (qS (cL (fun _ h=>sY (sz:=1) (enc:=(encH:LstA Int→List Value)) h) ?_))
 refine cL (fun _ h=>sY (sz:=1) (enc:=(encH:LstA Int→List Value)) h) ?_
 refine cL (fun _ h=>sY (sz:=1) (enc:=(encH:LstA T3→List Value)) h) ?_
 refine cL (fun _ h=>sY (sz:=1) (enc:=(encH:LstA T3→List Value)) h) ?_
 refine s_big_nil (f:=owA 1 encZ) ?_
 refine s_big_nil (f:=owA 1 encZ) ?_
 refine s_big_nil (f:=owA 3 enc3) ?_
 refine s_big_nil (f:=owA 3 enc3) ?_
 refine tab_fold (b:=b69) (o0:=d) (o1:=some ⟨b77,0,none⟩) (r0:=u) (r1:=none) (C:=[]) (W:=[]) (F:=[]) (G:=[]) (ca:=none) (cc:=0) (wa:=none) (wc:=0) (fa:=none) (fc:=0) (ga:=none) (gc:=0) Ts J J J J ?_
 refine own_zero9 (pa:=dpa) (pc:=dpc) (po:=dpo) (poc:=dpoc) b77 Tk ?_
 refine ref_none9 (ra:=upa) (rc:=upc) ?_
 refine qW [1,9] (e':=[(1,_),(9,_)]) J ?_
 refine qQ (qL (qL (qC (.q 0 (.done)) Kr ?_)))
 refine qR J J J J (qS (qQ (kV ?_)))
 refine sS (α:=Nat × TS) (fun (x_:Nat × TS)=>match x_ with | (i,T)=>i≤m∧(TOk (plN th va vo lk pl) (i) (((i:Nat):Int)*1500000) T)) (fun (x_:Nat × TS)=>match x_ with | (i,T)=>[(10,.int .i64 ((i:Nat):Int))]) (fun (x_:Nat × TS)=>match x_ with | (i,T)=>[tabR b69 T.o0 T.o1 T.r0 T.r1 T.B,ownP dpa dpc dpo dpoc T.o0 T.m0,ownP dpa dpc dpo dpoc T.o1 T.m1,refP upa upc T.r0 T.m0,refP upa upc T.r1 T.m1,own 1 encZ dpa dpc (plN th va vo lk pl),own 1 encZ dpo dpoc (plN th va vo lk pl),own 1 encZ upa upc (plN th va vo lk pl)]) (fun (x_:Nat × TS)=>match x_ with | (i,T)=>m - i) [1,9] (er:=[(1,_),(9,_)]) J (0,⟨d,some ⟨b77,0,none⟩,u,none,(mN th va vo lk pl),none,⟨[],[],[],[]⟩⟩) ?_ (by exact ⟨rfl,trivial⟩) (by (try dsimp only);(repeat ((with_reducible apply Z2);focus (first | (with_reducible (repeat (first | exact Z0 | apply Z1));done) | (repeat (first | exact Z0 | apply Z1)))));exact Z3) ?_
 · exact ⟨Nat.zero_le _,⟨by simpa using sok_mN,sok_none,bok_nil⟩⟩
 rintro ⟨i,T⟩ ⟨hle_i,hT⟩
 try simp only [Ca,Na]
 refine qL (qL (qC (.q 0 (.q 1 (.q 2 (.q 3 (.q 4 (.done)))))) Kr ?_))
 refine qK J J J J (qG (k:=5) J J J J υ'27 J Tryz.sizeOf25 J ?_)
 refine qP (j:=5) J J J J Tryz.isAgg25 Tk Az (by rfl) ?_
 refine sR J J J J Tryz.underlying25 ?_
 refine qD J J J J J (sK _ _ _ _) ?_
 refine qS (qW [1,9,10,90] (e':=[(1,_),(9,_),(10,_),(90,_)]) J ?_)
 refine qQ ?_
 refine qF J (fun hlt=>?_) (fun hlt=>?_)
 ·
  refine qH (qQ (qL (kV (qL (qC (.q 0 (.q 1 (.q 2 (.q 3 (.q 4 (.q 5 ((.l 6 [] (.q 7 (.done)))))))))) Kr ?_)))))
  refine qK J J J J (qG (k:=5) J J J J υ'27 J Tryz.sizeOf25 J ?_)
  refine qP (j:=5) J J J J Tryz.isAgg25 Tk Az (by rfl) ?_
  refine qK J J J J ?_
  obtain ⟨s_,hs_⟩:=cX (l:=L) (i:=i) (by first | omega | (simp;done) | (simp;omega))
  refine q_idxR (sz:=7) (k:=i) J J J J J Tryz.underlying25 ζ'55 (hs) hs_ enc8_len (by first | rfl | omega) Om ?_
  intro ib97 io97 _ hd97
  refine q_loadN (vs:=[_,_,_,_,_,_,_,_]) J J J J Tryz.isAgg55 ζ'55 Tk (hd97) J ?_
  have sp_5:=step_spec b69 T.o0 T.o1 T.r0 T.r1 T.B i hT.B Om dpa dpc dpo dpoc upa upc T.m0 T.m1 (plN th va vo lk pl) (((i:Nat):Int)*1500000) Om hT.m0 hT.m1 s_.1 s_.2.1 s_.2.2.1.1 s_.2.2.1.2.1 s_.2.2.1.2.2 s_.2.2.2.2.1 s_.2.2.2.2.2 s_.2.2.2.1.2.2 s_.2.2.2.1.1 s_.2.2.2.1.2.2.length s_.2.2.2.1.2.1 A (hL _ (List.mem_of_getElem? hs_)).1 (rfl) ((hL _ (List.mem_of_getElem? hs_)).2)
  refine qB J J J J J J Tryz.call8 (sp_5) Ts ?_
  rintro T2 hT2
  try simp only [Ca,Na]
  refine qV (rK J J J J ?_)
  refine kF 100 J (v':=.bool false) J ?_
  refine qS (qW [1,9,10,100] (e':=[(1,_),(9,_),(10,_),(100,_)]) J ?_)
  refine qQ (kN J ?_)
  refine qH (kG (qQ (qC (.q 0 (.q 1 (.q 2 (.done)))) Kr ?_)))
  refine qK J J J J (qD J J J J J (cF _ (by exact kY Om Om)) ?_)
  refine qR J J J J (qS (qQ ?_))
  refine kZ (x:=(i,T)) ((i+1,T2)) ?_ ?_ ?_ ?_
  · try dsimp only
    exact ⟨by omega,tok_eq hT2 J Om⟩
  · show m - (i+1) < m - i;omega
  · exact ⟨rfl,rfl,rfl,trivial⟩
  · (try simp only [Ca,Na]);exact Tf
 refine cS (qY (qY (kK (qQ (qL (qL ?_))))))
 obtain rfl:i=m:=by omega
 refine qC (.q 0 (.done)) Kr ?_
 refine qR J J J J (qS (qQ (kV ?_)))
 refine sS (α:=Nat × TS) (fun (x_:Nat × TS)=>match x_ with | (y,T)=>y≤2∧(TOk (plN th va vo lk pl) (i+5*y) (((i+5*y:Nat):Int)*1500000) T)) (fun (x_:Nat × TS)=>match x_ with | (y,T)=>[(11,.int .i64 ((y:Nat):Int))]) (fun (x_:Nat × TS)=>match x_ with | (y,T)=>[tabR b69 T.o0 T.o1 T.r0 T.r1 T.B,ownP dpa dpc dpo dpoc T.o0 T.m0,ownP dpa dpc dpo dpoc T.o1 T.m1,refP upa upc T.r0 T.m0,refP upa upc T.r1 T.m1,own 1 encZ dpa dpc (plN th va vo lk pl),own 1 encZ dpo dpoc (plN th va vo lk pl),own 1 encZ upa upc (plN th va vo lk pl)]) (fun (x_:Nat × TS)=>match x_ with | (y,T)=>2 - y) [9] (er:=[(9,_)]) J (0,T) ?_ (by exact ⟨rfl,trivial⟩) (by (try dsimp only);(try simp only [Ad,Zd]);(repeat ((with_reducible apply Z2);focus (first | (with_reducible (repeat (first | exact Z0 | apply Z1));done) | (repeat (first | exact Z0 | apply Z1)))));exact Z3) ?_
 · exact ⟨Nat.zero_le _,hT⟩
 rintro ⟨y,T⟩ ⟨hle_y,hT⟩
 try simp only [Ca,Na]
 refine qL (qL (qC (.q 0 (.q 1 (.done))) Kr ?_))
 refine qK J J J J (qD J J J J J (sK _ _ _ _) ?_)
 refine qS (qQ ?_)
 refine qF J (fun hly=>?_) (fun hly=>?_)
 ·
  refine qH (qQ (qL (kV (qL (qC (.q 0 (.done)) Kr ?_)))))
  refine qR J J J J (qS (qQ (kV ?_)))
  refine sS (α:=Nat × TS) (fun (x_:Nat × TS)=>match x_ with | (q,T)=>q≤5∧(TOk (plN th va vo lk pl) (i+5*y+q) (((i+5*y+q:Nat):Int)*1500000) T)) (fun (x_:Nat × TS)=>match x_ with | (q,T)=>[(12,.int .i64 ((q+2:Nat):Int))]) (fun (x_:Nat × TS)=>match x_ with | (q,T)=>[tabR b69 T.o0 T.o1 T.r0 T.r1 T.B,ownP dpa dpc dpo dpoc T.o0 T.m0,ownP dpa dpc dpo dpoc T.o1 T.m1,refP upa upc T.r0 T.m0,refP upa upc T.r1 T.m1,own 1 encZ dpa dpc (plN th va vo lk pl),own 1 encZ dpo dpoc (plN th va vo lk pl),own 1 encZ upa upc (plN th va vo lk pl)]) (fun (x_:Nat × TS)=>match x_ with | (q,T)=>5 - q) [9,11] (er:=[(9,_),(11,_)]) J (0,T) ?_ (by exact ⟨rfl,trivial⟩) (by (try dsimp only);(try simp only [Ad,Zd]);(repeat ((with_reducible apply Z2);focus (first | (with_reducible (repeat (first | exact Z0 | apply Z1));done) | (repeat (first | exact Z0 | apply Z1)))));exact Z3) ?_
  · exact ⟨Nat.zero_le _,hT⟩
  rintro ⟨q,T⟩ ⟨hle_q,hT⟩
  try simp only [Ca,Na]
  refine qL (qL (qC (.q 0 (.q 1 (.done))) Kr ?_))
  refine qK J J J J (qD J J J J J (b_leq _ _ _ _) ?_)
  refine qS (qQ ?_)
  refine qF J (fun hlq=>?_) (fun hlq=>?_)
  ·
   refine qH (qQ (qL (kV (qL (qC (.q 0 (.q 1 (.q 2 (.q 3 ((.l 4 [] (.q 5 (.done)))))))) Kr ?_)))))
   refine qK J J J J (qK J J J J (qK J J J J (kB J J J J (vs:=[_,_,_,_,_,_,_,_]) (kQ υ'55 Tryz.zeroValue55 (ps:=[(0,1),(1,1),(2,3),(5,1),(6,1),(7,1)]) ⟨rfl,ζ'3,rfl,ζ'3,rfl,ζ'52,rfl,ζ'53,rfl,ζ'3,rfl,ζ'3,trivial⟩ rfl) ?_)))
   have sp_6:=step_spec b69 T.o0 T.o1 T.r0 T.r1 T.B (i+5*y+q) hT.B Om dpa dpc dpo dpoc upa upc T.m0 T.m1 (plN th va vo lk pl) (((i+5*y+q:Nat):Int)*1500000) Om hT.m0 hT.m1 ((q+2:Nat):Int) ((y:Nat):Int) 0 0 0 0 0 ([]) none 0 0 A (.inl rfl) (rfl) (Nat.zero_le _)
   refine qB J J J J J J Tryz.call8 (sp_6) Ts ?_
   rintro T2 hT2
   try simp only [Ca,Na]
   refine qV (rK J J J J ?_)
   refine kF 114 J (v':=.bool false) J ?_
   refine qS (qW [9,11,12,114] (e':=[(9,_),(11,_),(12,_),(114,_)]) J ?_)
   refine qQ (kN J ?_)
   refine qH (kG (qQ (qC (.q 0 (.q 1 (.q 2 (.done)))) Kr ?_)))
   refine qK J J J J (qD J J J J J (cF _ (by exact kY Om Om)) ?_)
   refine qR J J J J (qS (qQ ?_))
   refine kZ (x:=(q,T)) ((q+1,T2)) ?_ ?_ ?_ ?_
   · try dsimp only
     exact ⟨by omega,tok_eq hT2 Om Om⟩
   · show 5 - (q+1) < 5 - q;omega
   · exact ⟨rfl,rfl,rfl,trivial⟩
   · (try simp only [Ca,Na]);exact Tf
  refine cS (qY (qY (kK (kG (qQ (qC (.q 0 (.q 1 (.q 2 (.done)))) Kr ?_))))))
  refine qK J J J J (qD J J J J J (cF _ (by exact kY Om Om)) ?_)
  refine qR J J J J (qS (qW [9,11] (e':=[(9,_),(11,_)]) J ?_))
  refine qQ ?_
  refine kZ (x:=(y,T)) ((y+1,T)) ?_ ?_ ?_ ?_
  · try dsimp only
    exact ⟨by omega,tok_eq hT Om Om⟩
  · show 2 - (y+1) < 2 - y;omega
  · exact ⟨rfl,rfl,trivial⟩
  · (try simp only [Ca,Na]);exact Tf
 refine cS (qY (qY (kK (qQ (qL (qC (.q 0 ((.l 1 [] (.q 2 (.done))))) Kr ?_))))))
 refine qK J J J J ?_
 have sp_7:=apart_spec b69 (i+5*y) T.o0 T.o1 T.r0 T.r1 T.B hT.B Om
 refine qB J J J J J J Tryz.call9 (sp_7) Ts ?_
 rintro ⟨⟩ -
 try simp only [Ca,Na]
 refine qV (qR J J J J (qS (qW [2] (e':=[(2,_)]) J ?_)))
 refine qQ (qJ (cR J J (()) (by first | rfl | (first | rfl | (congr 1;done) | (congr 1 <;> first | rfl | omega | (simp;done) | (simp;omega)))) (by trivial) ?_))
 exact Tf
end Go.Ab.Rh
set_option linter.unusedVariables false
set_option linter.unusedSimpArgs false
namespace Go.Proofs.YtiefkbajaffgcaaGreat.frame
open Go Go.Ab Go.ChangeShapes Go.WideShapes Go.ChangeAt Go.RowKit
/-! The bound. -/
theorem one_le {H:Type} (d:DataW H):1≤Rows.uptoBulk d:=by
  cases d with
  | lit l=>cases l <;> simp [Rows.uptoBulk]
  | nil=>simp [Rows.uptoBulk]
  | ptr d=>simp [Rows.uptoBulk]
  | slice elems spare=>simp [Rows.uptoBulk]
  | agg parts=>simp [Rows.uptoBulk]
  | iface t d=>simp [Rows.uptoBulk]
  | map entries=>simp [Rows.uptoBulk]
  | held h=>simp [Rows.uptoBulk]
theorem part_le {H:Type} {d:DataW H} {l:List (DataW H)} (h:d∈l):Rows.uptoBulk d≤Rows.uptoBulkAll l:=by
  induction l with
  | nil=>cases h
  | cons x r ih =>
    simp only [Rows.uptoBulkAll]
    cases List.mem_cons.1 h with
    | inl e=>subst e;omega
    | inr e=>have:=ih e;omega
theorem length_le {H:Type} (l:List (DataW H)):l.length≤Rows.uptoBulkAll l:=by
  induction l with
  | nil=>simp [Rows.uptoBulkAll]
  | cons x r ih=>have:=one_le x;simp only [Rows.uptoBulkAll,List.length_cons];omega
theorem bound {H:Type} {l:List (DataW H)} (hk:Rows.uptoSmall H l=true):Rows.uptoBulkAll l≤1048576:=of_decide_eq_true hk
theorem bound_mem {H:Type} {l:List (DataW H)} {d:DataW H} (hk:Rows.uptoSmall H l=true) (h:d∈l):Rows.uptoBulk d≤1048576:=Nat.le_trans (part_le h) (bound hk)
theorem bulk_slice {H:Type} {es rs:List (DataW H)} {d:DataW H} (h:d∈es):Rows.uptoBulk d≤Rows.uptoBulk (.slice es rs):=by
  have:=part_le h
  simp only [Rows.uptoBulk];omega
theorem bulk_len {H:Type} (es rs:List (DataW H)):es.length≤Rows.uptoBulk (.slice es rs):=by
  have:=length_le es
  simp only [Rows.uptoBulk];omega
/-! The arguments read behind the call as before. -/
theorem trodAll_below {H:Type} {enc:TypeId × Value→H} {P:Program} (hl:laidOutB P=true) {W W':World} (hb:Below W.heap.size W W'):∀ {ts:List TypeId} {vs:List Value} {ds:List (DataW H)} {ps:List MemPlace},(∀ t∈ts,P.readableRec t=true∧t < P.types.size) →
    DataW.TrodAll enc P W 0 (fun _=>true) true ts vs ds ps→(∀ x∈ps,x.block < W.heap.size)→DataW.TrodAll enc P W' 0 (fun b=>decide (b < W.heap.size)) true ts vs ds ps
  | [],[],[],_,_,h,_=>h
  | t::ts,v::vs,d::ds,ps,hr,⟨p,q,h,hs,e⟩,hlt=>by
    subst e
    exact ⟨p,q,Below.trod hl (hr t (by simp)).1 (hr t (by simp)).2 h hb (fun x hx=>hlt x (List.mem_append_left _ hx)),trodAll_below hl hb (fun t ht=>hr t (List.mem_cons_of_mem _ ht)) hs (fun x hx=>hlt x (List.mem_append_right _ hx)),rfl⟩
theorem law_post {H:Type} {enc:TypeId × Value→H} {P:Program} {f:Func} {s:ChangeSpec} {W W':World} {args:Array Value} {ds gs:List (DataW H)} {before:List MemPlace} {tb:TypeId}
    (hl:laidOutB P=true) (hr:∀ t∈f.params.toList,P.readableRec t=true∧t < P.types.size) (hvars:s.vars=[]) (hres:f.resultTypes=#[tb]) (hb:P.underlying tb=some .bool)
    (hf:s.fn H (ds++gs)={ results:=[.lit (.bool true)],args:=ds,vars:=[] }) (hW:DataW.Whole enc P f.params.toList s.vars false W args.toList ds gs before) (bel:Below W.heap.size W W'):s.post enc P f false true false false W args (.bool true) W':=by
  have hW':=hW
  obtain ⟨p,q,hA,hV,rfl,hfz,hnd⟩:=hW
  rw [hvars] at hV
  obtain ⟨rfl,rfl⟩:=trodVars_none hV
  have hA':DataW.TrodAll enc P W 0 (fun _=>true) true f.params.toList args.toList ds p:=hA
  refine ⟨ds,[],p++[],[],p,[],hW',?_,?_,?_,bel.frame _,fun h=>by cases h⟩
  · rw [hf,hres]
    exact trodAll_mk1 (shut_bool hb true)
  · rw [hf]
    exact trodAll_below hl bel hr hA' (fun x hx=>hW'.lt x (List.mem_append_left _ hx))
  · rw [hf,hvars]
    exact rfl
theorem spec_calls {P:Program} {f:FuncId} {args:List Value} {W:World} (h:Ab.Spec P f args [base W] (fun (_:Unit)=>.bool true) (fun _=>True) (fun _=>[base W])):Calls P f args.toArray W fun e W'=>e=.returned (.bool true)∧Below W.heap.size W W' :=
  (h [] W (base_self W)).mono fun e w' ⟨_,e1,_,s,a⟩=>⟨e1,below_of_base s a⟩
/-! Arguments are opened. -/
theorem spot_of_cell {W:World} {a:Addr} {v:Value} (h:W.cell? a=some v):a.spot=none:=by
  unfold World.cell? at h
  split at h
  · split at h
    · cases h
    · rename_i hs;simpa using hs
  · cases h
theorem choose_list {α:Type}:∀ (n:Nat) (Q:Nat→α→Prop),(∀ i,i < n→∃ x,Q i x)→∃ xs:List α,xs.length=n∧∀ i x,xs[i]?=some x→Q i x
  | 0,Q,_=>⟨[],rfl,fun i x h=>by simp at h⟩
  | n+1,Q,h=>by
    obtain ⟨xs,h1,h2⟩:=choose_list n Q (fun i hi=>h i Om)
    obtain ⟨x,hx⟩:=h n Om
    refine ⟨xs++[x],by simp [h1],fun i y hy=>?_⟩
    rcases Nat.lt_trichotomy i n with hi | hi | hi
    · rw [List.getElem?_append_left Om] at hy;exact h2 i y hy
    · subst hi;rw [List.getElem?_append_right Om,h1,Nat.sub_self] at hy;simp at hy;subst hy;exact hx
    · rw [List.getElem?_eq_none (by simp;omega)] at hy;cases hy
theorem rdn_flat_mk {α:Type} {A:HProp} {b sz:Nat} {enc:α→List Value} (hsz:∀ x,(enc x).length=sz):∀ (xs:List α) (o:Nat),(∀ i x,xs[i]?=some x→RdN A b (o+i*sz) (enc x))→RdN A b o (xs.flatMap enc)
  | [],o,_=>fun i v h=>by simp at h
  | x::xs,o,h=>fun i v hv=>by
    rw [List.flatMap_cons] at hv
    by_cases hi:i < (enc x).length
    · rw [List.getElem?_append_left hi] at hv
      have:=h 0 x rfl i v hv
      rwa [Nat.zero_mul,Ad] at this
    · rw [List.getElem?_append_right Om,hsz] at hv
      rw [hsz] at hi
      have ih:=rdn_flat_mk hsz xs (o+sz) (fun i y hy=>by
        have:=h (i+1) y (by simpa using hy)
        rw [Nat.succ_mul] at this
        rwa [show o+sz+i*sz=o+(i*sz+sz) from by omega])
      have:=ih (i - sz) v hv
      rwa [show o+sz+(i - sz)=o+i from by omega] at this
/-- A slice among what is read: its elements are opened by 'hel'. -/
theorem open_sl {α H:Type} {enc:TypeId × Value→H} {P:Program} {W:World} {t e:TypeId} {ao:Option Addr} {len cap sz fuel:Nat} {y:DataW H × List MemPlace} {enc':α→List Value} {Q:α→DataW H→Prop} (ht:P.underlying t=some (.slice e)) (hc:P.cellsOf e=sz+1) (hsz:∀ x,(enc' x).length=sz+1)
    (hel:∀ n cs y,DataW.trod enc P W 0 (fun _=>true) true n e cs=some y→cs.length=sz+1→∃ x:α,enc' x=cs∧Q x y.1)
    (h:DataW.trod enc P W 0 (fun _=>true) true fuel t [.slice ao len cap]=some y) :
    ∃ xs:List α,xs.length=len∧RdS (base W) ao (xs.flatMap enc')∧len≤cap∧cap≤maxLen∧xs.length≤Rows.uptoBulk y.1∧(∀ x∈xs,∃ d,Q x d∧Rows.uptoBulk d≤Rows.uptoBulk y.1)∧(ao=none→cap=0):=by
  rcases DataW.trod_slice ht h with ⟨h1,h2⟩ | ⟨a,len',cap',elems,rest,n,-,h1,h2,-,hl,hm,hlen,hel',-⟩
  · simp only [List.cons.injEq,Value.slice.injEq,and_true] at h1
    obtain ⟨rfl,rfl,rfl⟩:=h1
    exact ⟨[],rfl,.inl rfl,Nat.le_refl _,Nat.zero_le _,Nat.zero_le _,fun _ h=>(by cases h),fun _=>rfl⟩
  · simp only [List.cons.injEq,Value.slice.injEq,and_true] at h1
    obtain ⟨rfl,rfl,rfl⟩:=h1
    subst h2
    have key:∀ i,i < len→∃ x:α,∃ cs y,W.cells? 0 (a.add (i*(sz+1))) (sz+1)=some cs∧elems[i]?=some y∧enc' x=cs∧Q x y.1:=by
      intro i hi
      have h3:=hel' i hi
      rw [List.getElem?_eq_getElem Om,hc,Option.bind_eq_some_iff] at h3
      obtain ⟨cs,h4,h5⟩:=h3
      have h6:=World.cells?_some h4
      obtain ⟨x,hx,hq⟩:=hel n cs _ h5 (by have:=mapM_some_length (by unfold World.cells? at h4;rwa [if_pos (Nat.zero_le _)] at h4);simpa using this)
      exact ⟨x,cs,_,h4,List.getElem?_eq_getElem Om,hx,hq⟩
    obtain ⟨xs,hx1,hx2⟩:=choose_list len _ key
    have hcell:∀ i x,xs[i]?=some x→∀ j v,(enc' x)[j]?=some v→W.cell? ((a.add (i*(sz+1))).add j)=some v:=by
      intro i x hx j v hv
      obtain ⟨cs,y,h4,-,h5,-⟩:=hx2 i x hx
      subst h5
      unfold World.cells? at h4
      rw [if_pos (Nat.zero_le _)] at h4
      have hj:j < sz+1:=by rw [← hsz x];exact (List.getElem?_eq_some_iff.1 hv).1
      have:=mapM_some_get h4 j j (by simp [hj])
      rw [this,hv]
    refine ⟨xs,hx1,?_,hl,hm,?_,?_,fun h=>by cases h⟩
    · cases hxs:xs with
      | nil=>exact .inl rfl
      | cons x0 xs' =>
        obtain ⟨v0,hv0⟩:=cX (l:=enc' x0) (i:=0) (by rw [hsz];omega)
        have h6:=hcell 0 x0 (by rw [hxs];rfl) 0 v0 hv0
        rw [Nat.zero_mul] at h6
        have hsp:a.spot=none:=spot_of_cell (by simpa [Addr.add] using h6)
        obtain ⟨b,o,sp⟩:=a
        simp only at hsp
        subst hsp
        refine .inr ⟨b,o,rfl,?_⟩
        rw [← hxs]
        refine rdn_flat_mk hsz xs o fun i x hx j v hv=>rd_base ?_
        have:=hcell i x hx j v hv
        rwa [add_none,add_none] at this
    · have:=bulk_len (elems.map (·.1)) (rest.map (·.1))
      rw [List.length_map,hlen] at this
      rw [hx1];exact this
    · intro x hx
      obtain ⟨i,hi⟩:=List.getElem?_of_mem hx
      obtain ⟨cs,y,-,h5,-,h7⟩:=hx2 i x hi
      exact ⟨y.1,h7,bulk_slice (List.mem_map_of_mem (List.mem_of_getElem? h5))⟩
/-- A slice of an element of a slice. -/
theorem el_sl {α H:Type} {enc:TypeId × Value→H} {P:Program} {W:World} {t e:TypeId} {sz:Nat} {enc':α→List Value} {Q:α→DataW H→Prop} (ht:P.underlying t=some (.slice e)) (hc:P.cellsOf e=sz+1) (hsz:∀ x,(enc' x).length=sz+1)
    (hel:∀ n cs y,DataW.trod enc P W 0 (fun _=>true) true n e cs=some y→cs.length=sz+1→∃ x:α,enc' x=cs∧Q x y.1)
    (n:Nat) (cs:List Value) (y:DataW H × List MemPlace) (h:DataW.trod enc P W 0 (fun _=>true) true n t cs=some y) (hl:cs.length=0+1) :
    ∃ x:LstA α,encH x=cs∧(RdS (base W) x.1 (x.2.2.flatMap enc')∧x.2.2.length≤Rows.uptoBulk y.1∧(∀ z∈x.2.2,∃ d,Q z d∧Rows.uptoBulk d≤Rows.uptoBulk y.1)∧x.2.2.length≤x.2.1):=by
  have h0:∃ ao len cap,cs=[.slice ao len cap]:=by
    rcases DataW.trod_slice ht h with ⟨h1,-⟩ | ⟨a,len',cap',elems,rest,n,-,h1,-⟩
    · exact ⟨_,_,_,h1⟩
    · exact ⟨_,_,_,h1⟩
  obtain ⟨ao,len,cap,rfl⟩:=h0
  obtain ⟨xs,h1,h2,h3,h4,h5,h6,h7⟩:=open_sl ht hc hsz hel h
  subst h1
  exact ⟨(ao,cap,xs),rfl,h2,h5,h6,h3⟩
/-- An integer. -/
theorem el_int {H:Type} {enc:TypeId × Value→H} {P:Program} {W:World} {e:TypeId} {k:IntKind} (he:P.underlying e=some (.int k)) (n:Nat) (cs:List Value) (y:DataW H × List MemPlace) (h:DataW.trod enc P W 0 (fun _=>true) true n e cs=some y) (hl:cs.length=0+1):∃ x:Int,[Value.int k x]=cs∧(Lit.int k x).wf=true:=by
  obtain ⟨m,rfl,rfl,hw⟩:=DataW.trod_int he h
  exact ⟨m,rfl,hw⟩
end Go.Proofs.YtiefkbajaffgcaaGreat.frame
set_option linter.unusedVariables false
set_option linter.unusedSimpArgs false
namespace Go.Proofs.YtiefkbajaffgcaaGreat.frame
open Go Go.Ab Go.ChangeShapes Go.WideShapes Go.ChangeAt Go.RowKit
variable {α β H:Type} {enc:TypeId × Value→H} {P:Program} {W:World} {e:TypeId} {fs:Array Field} {m:Nat} {cs:List Value} {B:Nat}
/-- How an element of type e is opened. -/
abbrev El (enc:TypeId × Value→H) (P:Program) (W:World) (e:TypeId) (sz:Nat) (encA:α→List Value) (Q:α→DataW H→Prop):Prop :=
  ∀ n cs y,DataW.trod enc P W 0 (fun _=>true) true n e cs=some y→cs.length=sz→∃ x:α,encA x=cs∧Q x y.1
/-- What is known of the fields from i on. -/
def FR (enc:TypeId × Value→H) (P:Program) (W:World) (fs:Array Field) (m i:Nat) (cs:List Value) (B:Nat):Prop :=
  ∀ j f,i≤j→fs[j]?=some f→∃ y:DataW H × List MemPlace,DataW.trod enc P W 0 (fun _=>true) true m f.type ((cs.drop f.offset).take (P.cellsOf f.type))=some y∧Rows.uptoBulk y.1≤B
theorem fr_start {n:Nat} {y:DataW H × List MemPlace} (he:P.underlying e=some (.struct fs)) (h:DataW.trod enc P W 0 (fun _=>true) true n e cs=some y):∃ m,FR enc P W fs m 0 cs (Rows.uptoBulk y.1):=by
  obtain ⟨xs,m,-,hy,-,hxs,hf⟩:=DataW.trod_struct he h
  refine ⟨m,fun j f _ hj=>?_⟩
  have hlt:j < xs.length:=by rw [hxs];exact (Array.getElem?_eq_some_iff.1 hj).1
  have:=hf j f hj
  rw [List.getElem?_eq_getElem hlt] at this
  refine ⟨_,this,?_⟩
  rw [hy]
  have hp:=part_le (l:=xs.map (·.1)) (d:=xs[j].1) (List.mem_map_of_mem (List.getElem_mem hlt))
  simp only [Rows.uptoBulk]
  omega
/-- Fields from i on, opened. -/
abbrev Fo (enc:TypeId × Value→H) (P:Program) (W:World) (fs:Array Field) (i off sz:Nat) (encA:α→List Value) (Q:α→Nat→Prop):Prop :=
  ∀ m cs B,FR enc P W fs m i cs B→cs.length=off+sz→∃ x:α,encA x=cs.drop off∧Q x B
theorem fo_last {i off sz:Nat} {f:Field} {encA:α→List Value} {Q:α→DataW H→Prop} (hf:fs[i]?=some f) (ho:f.offset=off) (hc:P.cellsOf f.type=sz) (el:El enc P W f.type sz encA Q) :
    Fo enc P W fs i off sz encA (fun x B=>∃ d,Q x d∧Rows.uptoBulk d≤B):=by
  intro m cs B h hl
  obtain ⟨y,hy,hb⟩:=h i f (Nat.le_refl _) hf
  rw [ho,hc,List.take_of_length_le (by rw [List.length_drop];omega)] at hy
  obtain ⟨x,hx,hq⟩:=el m _ y hy (by rw [List.length_drop];omega)
  exact ⟨x,hx,y.1,hq,hb⟩
theorem fo_cons {i off sz n:Nat} {f:Field} {encA:α→List Value} {Q:α→DataW H→Prop} {encB:β→List Value} {R:β→Nat→Prop} (hf:fs[i]?=some f) (ho:f.offset=off) (hc:P.cellsOf f.type=sz) (el:El enc P W f.type sz encA Q)
    (rest:Fo enc P W fs (i+1) (off+sz) n encB R):Fo enc P W fs i off (sz+n) (fun x:α × β=>encA x.1++encB x.2) (fun x B=>(∃ d,Q x.1 d∧Rows.uptoBulk d≤B)∧R x.2 B):=by
  intro m cs B h hl
  obtain ⟨y,hy,hb⟩:=h i f (Nat.le_refl _) hf
  rw [ho,hc] at hy
  obtain ⟨x,hx,hq⟩:=el m _ y hy (by rw [List.length_take,List.length_drop];omega)
  obtain ⟨z,hz,hr⟩:=rest m cs B (fun j g hj hg=>h j g Om hg) Om
  refine ⟨(x,z),?_,⟨y.1,hq,hb⟩,hr⟩
  show encA x++encB z=_
  rw [hx,hz,← List.drop_drop,List.take_append_drop]
theorem el_struct {sz:Nat} {encA:α→List Value} {Q:α→Nat→Prop} (he:P.underlying e=some (.struct fs)) (fo:Fo enc P W fs 0 0 sz encA Q):El enc P W e sz encA (fun x d=>Q x (Rows.uptoBulk d)):=by
  intro n cs y h hl
  obtain ⟨m,hm⟩:=fr_start he h
  obtain ⟨x,hx,hq⟩:=fo m cs _ hm Om
  exact ⟨x,hx,hq⟩
/-- A struct handed in. -/
theorem arg_struct {t:TypeId} {v:Value} {d:DataW H} {ps:List MemPlace} {bs sz:Nat} {encA:α→List Value} {Q:α→DataW H→Prop} (ht:P.underlying t=some (.struct fs)) (hc:P.cellsOf t=sz) (el:El enc P W t sz encA Q)
    (hval:Value.okWide P W .any bs t v) (h:DataW.Trod enc P W 0 (fun _=>true) true t v d ps):∃ x:α,v=.agg (encA x).toArray∧Q x d:=by
  obtain ⟨cs,rfl,hs⟩:=okWide_struct ht hval
  obtain ⟨n,hn⟩:=h
  obtain ⟨x,hx,hq⟩:=el n cs.toList (d,ps) (by simpa [Value.cells] using hn) (by simpa [hc] using hs)
  exact ⟨x,by rw [hx],hq⟩
end Go.Proofs.YtiefkbajaffgcaaGreat.frame
