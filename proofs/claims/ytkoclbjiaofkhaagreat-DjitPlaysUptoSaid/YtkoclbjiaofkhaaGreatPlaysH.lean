/- What the law Plays rests on, part 8 of 8. -/
import Derived.Test.YtkoclbjiaofkhaaGreatPlaysG
import Derived.Test.YtkoclbjiaofkhaaGreatRows
import Derived.WalkKit
import Derived.ProofKit
import Derived.OpenShut
import Derived.JoinedCond
import Derived.Carry
set_option linter.unusedVariables false
set_option linter.unusedSimpArgs false
set_option maxRecDepth 100000
namespace Go.Ab.Rv
open Go Go.Proofs Go.Ab Go.Ab.Fe Go.Ab.Vc Go.Ab.Dj
abbrev ST7:=Int × Int × T3 × (Option Addr × Nat × List T3) × Int
def enc7 (x:ST7):List Value:=[.int .i64 x.1,.int .i64 x.2.1,.int .i64 x.2.2.1.1,.int .i64 x.2.2.1.2.1,.int .i64 x.2.2.1.2.2,.slice x.2.2.2.1.1 x.2.2.2.1.2.2.length x.2.2.2.1.2.1,.int .i64 x.2.2.2.2]
theorem enc7_len:∀ x,(enc7 x).length=7:=fun _=>rfl
theorem tok_eq {pl:List Int} {n n':Nat} {N N':Int} {T:TS} (h:TOk pl n N T) (hn:n=n') (hN:N=N'):TOk pl n' N' T:=by subst hn hN;exact h
theorem sok_none {pl:List Int} {N:Int}:SOk pl N none:=fun x h=>by cases h
theorem sok_new {th va vo lk:Int} {pl:List Int} (hok:OkS th va vo lk pl):SOk pl 0 (some (dNew th va vo lk pl)):=fun x h=>by
  obtain rfl:=Option.some.inj h
  exact ⟨new_dinv hok (new_inv hok),fgok_new,rfl,Int.le_refl _⟩
section
variable {w0:World} {ds:List Deferred} {n:Nat} {e:Env} {Γ Γ':List HProp} {X:Act→World→Prop} {pa po ra:Option Addr} {pc poc rc:Nat}
theorem own_some9 (b:Nat) (x:DS) (tk:Take Γ (dR pa pc po poc b x) Γ') (k:Le (St w0 ds n e (ownP pa pc po poc (some ⟨b,0,none⟩) (some x)::Γ')) X):Le (St w0 ds n e Γ) X:=cQ (fun h s=>by
  obtain ⟨h1,l1,a1,s1⟩:=tk h s
  exact ⟨h1,l1,⟨b,rfl,a1⟩,s1⟩) k
theorem own_zero9 (b:Nat) (tk:Take Γ (zc b) Γ') (k:Le (St w0 ds n e (ownP pa pc po poc (some ⟨b,0,none⟩) none::Γ')) X):Le (St w0 ds n e Γ) X:=cQ (fun h s=>by
  obtain ⟨h1,l1,a1,s1⟩:=tk h s
  exact ⟨h1,l1,.inr ⟨b,rfl,a1⟩,s1⟩) k
theorem own_none9 (k:Le (St w0 ds n e (ownP pa pc po poc none none::Γ)) X):Le (St w0 ds n e Γ) X:=cQ (fun h s=>sat_free (A:=ownP pa pc po poc none none) (.inl rfl) s) k
theorem ref_some9 (b:Nat) (x:DS) (tk:Take Γ (rdR ra rc b x) Γ') (k:Le (St w0 ds n e (refP ra rc (some ⟨b,0,none⟩) (some x)::Γ')) X):Le (St w0 ds n e Γ) X:=cQ (fun h s=>by
  obtain ⟨h1,l1,a1,s1⟩:=tk h s
  exact ⟨h1,l1,⟨b,rfl,a1⟩,s1⟩) k
theorem ref_none9 (k:Le (St w0 ds n e (refP ra rc none none::Γ)) X):Le (St w0 ds n e Γ) X:=cQ (fun h s=>sat_free (A:=refP ra rc none none) rfl s) k
end
theorem begun_ok (th va vo lk:Int) (pl:List Int) (ao:Option Addr) (n c:Nat) (A:HProp) (hr:RdS A ao (pl.flatMap encZ)) (hn:pl.length=n) (hb:n≤4000000) (hok:OkS th va vo lk pl):Spec Tryz.prog 5 [.agg #[.int .i64 th,.int .i64 va,.int .i64 vo,.int .i64 lk,.slice ao n c]] [A] (fun (r:Nat × (Option Addr × Nat) × (Option Addr × Nat) × Nat × Option Addr × Nat)=>.tuple #[.pointer (some ⟨r.1,0,none⟩),.pointer (some ⟨r.2.2.2.1,0,none⟩),.bool true]) (fun r=>True) (fun r=>[A,own 1 encZ r.2.1.1 r.2.1.2 pl,own 1 encZ r.2.2.1.1 r.2.2.1.2 pl,own 1 encZ r.2.2.2.2.1 r.2.2.2.2.2 pl,dR r.2.1.1 r.2.1.2 r.2.2.1.1 r.2.2.1.2 r.1 (dNew th va vo lk pl),rdR r.2.2.2.2.1 r.2.2.2.2.2 r.2.2.2.1 (dNew th va vo lk pl)]):=by
 refine kQ (n:=88) Tryz.func5 rfl rfl rfl ?_
 intro Γ w0
 simp only [argE,Ca,Na,Zd,Nat.reduceAdd]
 refine qL (qC ((.l 0 [] (.q 1 (.q 2 (.q 3 (.done)))))) Kr ?_)
 refine sP rfl rfl rfl rfl (us:=[_,_,_,_,_]) rfl ?_
 intro b1
 refine qV (qS rfl rfl rfl rfl (qS rfl rfl rfl rfl (qS rfl rfl rfl rfl (qR (qW [1] (e':=[(1,_)]) rfl ?_)))))
 refine qQ (qL (qC (.q 0 ((.l 1 [] ((.l 2 [] (.done)))))) Kr ?_))
 refine kG rfl rfl rfl rfl α'24 ζ'24 Tk 0 (us:=[_,_,_,_,_]) Az rfl rfl ?_
 refine sD rfl rfl rfl ω'24 (zs:=[.int .i64 0,.int .i64 0,.int .i64 0,.int .i64 0,.slice none 0 0]) rfl ?_
 intro b5
 refine qV (kH (j:=0) rfl rfl rfl rfl ζ'24 (us:=[_,_,_,_,_]) rfl rfl rfl Tk Az (by first | decide | (simp;done) | omega) ?_)
 simp only [setL,List.set]
 refine qV (qR (qQ (qL (qC ((.l 0 [] (.q 1 (.q 2 ((.l 3 [] ((.l 4 [] ((.l 5 [] (.q 6 ((.l 7 [] (.done)))))))))))))) Kr ?_))))
 refine rC rfl rfl rfl rfl υ'22 ζ'3 ?_
 intro b12
 refine qV (qG (k:=4) rfl rfl rfl rfl υ'24 rfl ζ'22 rfl ?_)
 refine qP (j:=4) rfl rfl rfl rfl α'22 Tk Az (by rfl) ?_
 refine cS (A:=cells b12 0 []) Tk ?_
 refine cQ (fun _ h=>own_mk (sz:=1) (enc:=encZ) (xs:=[]) (sp:=[]) (cap:=0) (Nat.le_refl _) rfl h) ?_
 refine sG (sz:=1) (enc:=encZ) (xs:=[]) rfl rfl rfl rfl rfl υ'22 τ'3 rfl rfl rfl (by decide) Tk Tk (by first | rfl | omega | (simp;done) | (simp;omega)) (ys:=pl) (hr) (by rfl) (by first | rfl | omega) (encZ_len) (encZ_one) Om (by show _*8≤_;omega) ?_
 intro ao15 cp15
 try simp only [Na]
 refine kB 15 rfl (v':=.slice ao15 n cp15) (by first | rfl | (congr 1;done) | (congr 1 <;> first | rfl | omega | (simp;done) | (simp;omega))) ?_
 refine qV (cL rfl rfl rfl rfl (sQ (us:=[_]) υ'22 ζ'3 rfl ω'3 rfl rfl rfl) ?_)
 intro b16
 refine qV (sG (sz:=1) (enc:=encZ) (xs:=(pl)) rfl rfl rfl rfl rfl υ'22 τ'3 rfl rfl rfl (by decide) Tk Tk (by first | rfl | omega | (simp;done) | (simp;omega)) (ys:=[(-7)]) (sX sS) (by rfl) (by first | rfl | omega) (encZ_len) (encZ_one) Om (by show _*8≤_;omega) ?_)
 intro ao17 cp17
 refine qV (qG (k:=4) rfl rfl rfl rfl υ'24 rfl ζ'22 rfl ?_)
 refine kH (j:=4) rfl rfl rfl rfl ζ'22 (us:=[_]) rfl rfl rfl Tk Az (by first | decide | (simp;done) | omega) ?_
 simp only [setL,List.set]
 refine qV (qR (qW [1,5] (e':=[(1,_),(5,_)]) rfl ?_))
 refine qQ (qL (qC (.q 0 (.q 1 (.q 2 (.q 3 (.q 4 (.q 5 (.q 6 ((.l 7 [] (.done)))))))))) Kr ?_))
 refine qG (k:=4) rfl rfl rfl rfl υ'24 rfl ζ'22 rfl ?_
 refine qP (j:=4) rfl rfl rfl rfl α'22 Tk Az (by rfl) ?_
 refine qG (k:=4) rfl rfl rfl rfl υ'24 rfl ζ'22 rfl ?_
 refine qP (j:=4) rfl rfl rfl rfl α'22 Tk Az (by rfl) ?_
 refine cJ rfl rfl rfl rfl υ'22 ?_
 refine cS (A:=own 1 encZ ao17 cp17 (pl++[(-7)])) Tk ?_
 refine own_fc fun wt1 wt2 wt3=>?_
 have hwt1:=wt1
 simp only [List.length_append,List.length_singleton] at hwt1
 refine q_cut_hi (h':=n) rfl rfl rfl rfl rfl υ'22 ζ'3 (by first | rfl | omega) Om ?_
 refine cS (A:=own 1 encZ ao17 cp17 ((pl)++([(-7)]))) Tk ?_
 refine own_fc fun f_1a f_1b f_1c=>?_
 refine qG (k:=4) rfl rfl rfl rfl υ'24 rfl ζ'22 rfl ?_
 refine kH (j:=4) rfl rfl rfl rfl ζ'22 (us:=[_]) rfl rfl rfl Tk Az (by first | decide | (simp;done) | omega) ?_
 simp only [setL,List.set]
 refine qV (qR (qW [1,5] (e':=[(1,_),(5,_)]) rfl ?_))
 refine qQ (qL (qC (.q 0 ((.l 1 [] (.q 2 (.q 3 (.q 4 (.q 5 (.q 6 (.done))))))))) Kr ?_))
 refine kG rfl rfl rfl rfl α'24 ζ'24 Tk 0 (us:=[_,_,_,_,_]) Az rfl rfl ?_
 have sp_2:=Dj.new_spec th va vo lk pl ao17 n cp17 (own 1 encZ ao17 cp17 (pl++[(-7)])) ((own_front encZ_len wt2 wt3)) Ln Om hok
 refine qM rfl rfl rfl rfl rfl rfl Tryz.call8 (sp_2) Ts ?_
 rintro ⟨d,⟨dpa,dpc⟩,dpo,dpoc⟩ -
 try simp only [Ca,Na]
 refine qV (qK rfl rfl rfl rfl (kY rfl rfl rfl rfl rfl (kY rfl rfl rfl rfl rfl (qS rfl rfl rfl rfl (qS rfl rfl rfl rfl (qR (qW [1,5,6,7] (e':=[(1,_),(5,_),(6,_),(7,_)]) rfl ?_)))))))
 refine qQ (qL (qC (.q 0 ((.l 1 [] (.q 2 (.q 3 (.q 4 (.q 5 (.q 6 (.done))))))))) Kr ?_))
 refine kG rfl rfl rfl rfl α'24 ζ'24 Tk 0 (us:=[_,_,_,_,_]) Az rfl rfl ?_
 have sp_3:=rnew_spec th va vo lk pl ao n c A (hr) Ln Om hok
 refine qM rfl rfl rfl rfl rfl rfl Tryz.call17 (sp_3) Ts ?_
 rintro ⟨u,upa,upc⟩ -
 try simp only [Ca,Na]
 refine qV (qK rfl rfl rfl rfl (kY rfl rfl rfl rfl rfl (kY rfl rfl rfl rfl rfl (qS rfl rfl rfl rfl (qS rfl rfl rfl rfl (qR (qW [1,5,6,7,8,9] (e':=[(1,_),(5,_),(6,_),(7,_),(8,_),(9,_)]) rfl ?_)))))))
 refine qQ (qL (qL (qC (.q 0 (.done)) Kr ?_)))
 refine qS rfl rfl rfl rfl (qR (qQ (kC ?_)))
 refine cH (α:=Nat × List Int) (fun (x_:Nat × List Int)=>match x_ with | (z,f)=>z≤n∧(f.length=n+1)∧(f[n]?=some (-7))∧(∀ j:Nat,z≤j→j < n→f[j]?=pl[j]?)) (fun (x_:Nat × List Int)=>match x_ with | (z,f)=>[(10,.int .i64 ((z:Nat):Int))]) (fun (x_:Nat × List Int)=>match x_ with | (z,f)=>[cells b5 0 [.int .i64 th,.int .i64 va,.int .i64 vo,.int .i64 lk,.slice ao17 n cp17],own 1 encZ ao17 cp17 f]) (fun (x_:Nat × List Int)=>match x_ with | (z,f)=>n - z) [1,5,6,7,8,9] (er:=[(1,_),(5,_),(6,_),(7,_),(8,_),(9,_)]) rfl (0,(pl++[(-7)])) ?_ (by exact ⟨rfl,trivial⟩) (by (try dsimp only);(try simp only [Ad,Zd]);(repeat ((with_reducible apply Z2);focus (first | (with_reducible (repeat (first | exact Z0 | apply Z1));done) | (repeat (first | exact Z0 | apply Z1)))));exact Z3) ?_
 · exact ⟨Nat.zero_le _,by rw [List.length_append,hn];rfl,by rw [← hn];exact app_at _ _,fun j _ hj=>List.getElem?_append_left Om⟩
 rintro ⟨z,f⟩ ⟨hle_z,hfl,hfe,hfq⟩
 try simp only [Ca,Na]
 refine qL (qL (qC (.q 0 (.q 1 (.q 2 (.q 3 (.q 4 (.done)))))) Kr ?_))
 refine qK rfl rfl rfl rfl (qG (k:=4) rfl rfl rfl rfl υ'24 rfl ζ'22 rfl ?_)
 refine qP (j:=4) rfl rfl rfl rfl α'22 Tk Az (by rfl) ?_
 refine cJ rfl rfl rfl rfl υ'22 ?_
 refine qB rfl rfl rfl rfl rfl (cB _ _ _ _) ?_
 refine qR (qW [1,5,6,7,8,9,10,40] (e':=[(1,_),(5,_),(6,_),(7,_),(8,_),(9,_),(10,_),(40,_)]) rfl ?_)
 refine qQ ?_
 refine qD rfl (fun hlt=>?_) (fun hlt=>?_)
 ·
  refine qF (qQ (qL (kC (qL (qL ?_)))))
  obtain ⟨p,hp⟩:=cR (l:=pl) (i:=z) Om
  have hpf:f[z]?=some p:=(hfq z (Nat.le_refl _) Om).trans hp
  refine kL rfl (.q 0 (.q 1 (.q 2 (.q 3 (.q 4 (.q 5 (.q 6 (.q 7 (.q 8 (.q 9 (.q 10 (.done)))))))))))) Kr ?_
  refine qG (k:=4) rfl rfl rfl rfl υ'24 rfl ζ'22 rfl ?_
  refine qP (j:=4) rfl rfl rfl rfl α'22 Tk Az (by rfl) ?_
  refine qK rfl rfl rfl rfl (kF (sz:=0) (k:=z) (enc:=encZ) (xs:=f) rfl rfl rfl rfl rfl υ'22 ζ'3 hpf (by first | rfl | omega) Om Tk ?_)
  intro ib46 io46 ha46 hl46 hc46
  refine kS (v:=(.int .i64 p)) (j:=0) (k':=z) (enc:=encZ) (off:=io46) rfl rfl rfl rfl α'3 ha46 encZ_len hpf Tk (by first | rfl | exact (Ad _).symm | omega) (by rfl) ?_
  refine qG (k:=4) rfl rfl rfl rfl υ'24 rfl ζ'22 rfl ?_
  refine qP (j:=4) rfl rfl rfl rfl α'22 Tk Az (by rfl) ?_
  refine qK rfl rfl rfl rfl (q_idxR (sz:=0) (k:=z) rfl rfl rfl rfl rfl υ'22 ζ'3 (hr) hp encZ_len (by first | rfl | omega) Om ?_)
  intro ib51 io51 _ hd51
  refine q_load rfl rfl rfl rfl α'3 Tk (hd51 0 (.int .i64 p) rfl) ?_
  refine qB rfl rfl rfl rfl rfl (b_neq _ _ _ _) ?_
  refine kB 53 rfl (v':=.bool false) (by first | rfl | simp) ?_
  refine qR (qW [1,5,6,7,8,9,10,53] (e':=[(1,_),(5,_),(6,_),(7,_),(8,_),(9,_),(10,_),(53,_)]) rfl ?_)
  refine qQ (kZ rfl ?_)
  refine qF (qQ (qC (.q 0 (.q 1 (.q 2 (.q 3 ((.l 4 [] (.done))))))) Kr ?_))
  refine qG (k:=4) rfl rfl rfl rfl υ'24 rfl ζ'22 rfl ?_
  refine qP (j:=4) rfl rfl rfl rfl α'22 Tk Az (by rfl) ?_
  refine qK rfl rfl rfl rfl (kF (sz:=0) (k:=z) (enc:=encZ) (xs:=f) rfl rfl rfl rfl rfl υ'22 ζ'3 hpf (by first | rfl | omega) Om Tk ?_)
  intro ib59 io59 ha59 hl59 hc59
  refine sK (j:=0) (k:=z) (q:=1) (enc:=encZ) (off:=io59) rfl rfl rfl rfl ζ'3 (us:=[_]) rfl rfl rfl ha59 encZ_len hpf Tk (by first | rfl | exact (Ad _).symm | omega) (by first | decide | exact Nat.le_of_ble_eq_true rfl) (by rfl) ?_
  refine qV (qR (qW [1,5,6,7,8,9,10] (e':=[(1,_),(5,_),(6,_),(7,_),(8,_),(9,_),(10,_)]) rfl ?_))
  refine kX (qQ (qC (.q 0 (.q 1 (.q 2 (.done)))) Kr ?_))
  refine qK rfl rfl rfl rfl (qB rfl rfl rfl rfl rfl (cV _ (by exact kP Om Om)) ?_)
  refine qS rfl rfl rfl rfl (qR (qQ ?_))
  refine kJ (x:=(z,f)) ((z+1,f.set z 1)) ?_ ?_ ?_ ?_
  · try dsimp only
    exact ⟨by omega,by rw [List.length_set];exact hfl,by rw [List.getElem?_set_ne Om];exact hfe,fun j h1 h2=>by rw [List.getElem?_set_ne Om];exact hfq j Om h2⟩
  · show n - (z+1) < n - z;omega
  · exact ⟨rfl,rfl,rfl,rfl,rfl,rfl,rfl,trivial⟩
  · (try simp only [Ca,Na]);exact Tf
 refine cW (qY (qY (kK (qQ (qL ?_)))))
 have hfe2:f[n]?=some (-7):=hfe
 refine kL rfl (.q 0 (.q 1 (.q 2 (.q 4 ((.l 3 [] (.q 5 (.q 6 (.q 7 (.q 8 (.q 9 (.q 10 (.q 11 (.q 12 (.q 13 (.q 14 (.q 15 (.q 16 (.q 17 (.q 18 (.q 19 (.q 20 (.q 21 (.q 22 (.q 23 (.q 24 (.q 25 (.q 26 (.q 27 (.q 28 (.q 29 (.q 30 (.done))))))))))))))))))))))))))))))))) Kr ?_
 refine qK rfl rfl rfl rfl (qK rfl rfl rfl rfl (qK rfl rfl rfl rfl (qK rfl rfl rfl rfl ?_)))
 have sp_4:=num_spec 0
 refine qM rfl rfl rfl rfl rfl rfl κ'11 (sp_4) Ts ?_
 rintro ⟨⟩ -
 try simp only [Ca,Na]
 refine qV (qB rfl rfl rfl rfl rfl (cP _ _ _ _) ?_)
 refine kB 65 rfl (v':=.bool true) (by first | rfl | simp) ?_
 refine qK rfl rfl rfl rfl (qK rfl rfl rfl rfl (cG rfl rfl rfl rfl υ'29 ?_))
 refine kB 68 rfl (v':=.bool false) rfl ?_
 refine qK rfl rfl rfl rfl (cG rfl rfl rfl rfl υ'30 ?_)
 refine kB 70 rfl (v':=.bool false) rfl ?_
 refine q_eqb rfl rfl rfl rfl rfl υ'4 ?_
 refine kB 71 rfl (v':=.bool true) rfl ?_
 refine kW rfl rfl rfl rfl rfl (qK rfl rfl rfl rfl (qG (k:=4) rfl rfl rfl rfl υ'24 rfl ζ'22 rfl ?_))
 refine qP (j:=4) rfl rfl rfl rfl α'22 Tk Az (by rfl) ?_
 refine qG (k:=4) rfl rfl rfl rfl υ'24 rfl ζ'22 rfl ?_
 refine qP (j:=4) rfl rfl rfl rfl α'22 Tk Az (by rfl) ?_
 refine cJ rfl rfl rfl rfl υ'22 ?_
 refine qB rfl rfl rfl rfl rfl (cV _ (by exact kP Om Om)) ?_
 refine q_cut_hi (h':=n+1) rfl rfl rfl rfl rfl υ'22 ζ'3 (by first | rfl | omega) Om ?_
 refine cS (A:=own 1 encZ ao17 cp17 f) Tk ?_
 refine own_fc fun f_5a f_5b f_5c=>?_
 refine qG (k:=4) rfl rfl rfl rfl υ'24 rfl ζ'22 rfl ?_
 refine qP (j:=4) rfl rfl rfl rfl α'22 Tk Az (by rfl) ?_
 refine cJ rfl rfl rfl rfl υ'22 ?_
 refine kF (sz:=0) (k:=n) (enc:=encZ) (xs:=f) rfl rfl rfl rfl rfl υ'22 ζ'3 hfe2 (by first | rfl | omega) Om Tk ?_
 intro ib84 io84 ha84 hl84 hc84
 refine kS (v:=(.int .i64 (-7))) (j:=0) (k':=n) (enc:=encZ) (off:=io84) rfl rfl rfl rfl α'3 ha84 encZ_len hfe2 Tk (by first | rfl | exact (Ad _).symm | omega) (by rfl) ?_
 refine qB rfl rfl rfl rfl rfl (cP _ _ _ _) ?_
 refine kB 86 rfl (v':=.bool true) (by first | rfl | simp) ?_
 refine kW rfl rfl rfl rfl rfl (qS rfl rfl rfl rfl (qS rfl rfl rfl rfl (qS rfl rfl rfl rfl (qR (qW [2,3,4] (e':=[(2,_),(3,_),(4,_)]) rfl ?_)))))
 refine qQ (qJ (retL (us:=[_,_,_]) rfl ⟨rv_tmp rfl,rv_tmp rfl,rv_tmp rfl,trivial⟩ ((d,(dpa,dpc),(dpo,dpoc),u,upa,upc)) (by first | rfl | (first | rfl | (congr 1;done) | (congr 1 <;> first | rfl | omega | (simp;done) | (simp;omega)))) (by trivial) ?_))
 exact Tf
theorem begun_bad (th va vo lk:Int) (pl:List Int) (ao:Option Addr) (n c:Nat) (A:HProp) (hr:RdS A ao (pl.flatMap encZ)) (hn:pl.length=n) (hb:n≤4000000) (hok:¬ OkS th va vo lk pl):Spec Tryz.prog 5 [.agg #[.int .i64 th,.int .i64 va,.int .i64 vo,.int .i64 lk,.slice ao n c]] [A] (fun (_:Unit)=>.tuple #[.pointer none,.pointer none,.bool true]) (fun _=>True) (fun _=>[A]):=by
 refine kQ (n:=88) Tryz.func5 rfl rfl rfl ?_
 intro Γ w0
 simp only [argE,Ca,Na,Zd,Nat.reduceAdd]
 refine qL (qC ((.l 0 [] (.q 1 (.q 2 (.q 3 (.done)))))) Kr ?_)
 refine sP rfl rfl rfl rfl (us:=[_,_,_,_,_]) rfl ?_
 intro b1
 refine qV (qS rfl rfl rfl rfl (qS rfl rfl rfl rfl (qS rfl rfl rfl rfl (qR (qW [1] (e':=[(1,_)]) rfl ?_)))))
 refine qQ (qL (qC (.q 0 ((.l 1 [] ((.l 2 [] (.done)))))) Kr ?_))
 refine kG rfl rfl rfl rfl α'24 ζ'24 Tk 0 (us:=[_,_,_,_,_]) Az rfl rfl ?_
 refine sD rfl rfl rfl ω'24 (zs:=[.int .i64 0,.int .i64 0,.int .i64 0,.int .i64 0,.slice none 0 0]) rfl ?_
 intro b5
 refine qV (kH (j:=0) rfl rfl rfl rfl ζ'24 (us:=[_,_,_,_,_]) rfl rfl rfl Tk Az (by first | decide | (simp;done) | omega) ?_)
 simp only [setL,List.set]
 refine qV (qR (qQ (qL (qC ((.l 0 [] (.q 1 (.q 2 ((.l 3 [] ((.l 4 [] ((.l 5 [] (.q 6 ((.l 7 [] (.done)))))))))))))) Kr ?_))))
 refine rC rfl rfl rfl rfl υ'22 ζ'3 ?_
 intro b12
 refine qV (qG (k:=4) rfl rfl rfl rfl υ'24 rfl ζ'22 rfl ?_)
 refine qP (j:=4) rfl rfl rfl rfl α'22 Tk Az (by rfl) ?_
 refine cS (A:=cells b12 0 []) Tk ?_
 refine cQ (fun _ h=>own_mk (sz:=1) (enc:=encZ) (xs:=[]) (sp:=[]) (cap:=0) (Nat.le_refl _) rfl h) ?_
 refine sG (sz:=1) (enc:=encZ) (xs:=[]) rfl rfl rfl rfl rfl υ'22 τ'3 rfl rfl rfl (by decide) Tk Tk (by first | rfl | omega | (simp;done) | (simp;omega)) (ys:=pl) (hr) (by rfl) (by first | rfl | omega) (encZ_len) (encZ_one) Om (by show _*8≤_;omega) ?_
 intro ao15 cp15
 try simp only [Na]
 refine kB 15 rfl (v':=.slice ao15 n cp15) (by first | rfl | (congr 1;done) | (congr 1 <;> first | rfl | omega | (simp;done) | (simp;omega))) ?_
 refine qV (cL rfl rfl rfl rfl (sQ (us:=[_]) υ'22 ζ'3 rfl ω'3 rfl rfl rfl) ?_)
 intro b16
 refine qV (sG (sz:=1) (enc:=encZ) (xs:=(pl)) rfl rfl rfl rfl rfl υ'22 τ'3 rfl rfl rfl (by decide) Tk Tk (by first | rfl | omega | (simp;done) | (simp;omega)) (ys:=[(-7)]) (sX sS) (by rfl) (by first | rfl | omega) (encZ_len) (encZ_one) Om (by show _*8≤_;omega) ?_)
 intro ao17 cp17
 refine qV (qG (k:=4) rfl rfl rfl rfl υ'24 rfl ζ'22 rfl ?_)
 refine kH (j:=4) rfl rfl rfl rfl ζ'22 (us:=[_]) rfl rfl rfl Tk Az (by first | decide | (simp;done) | omega) ?_
 simp only [setL,List.set]
 refine qV (qR (qW [1,5] (e':=[(1,_),(5,_)]) rfl ?_))
 refine qQ (qL (qC (.q 0 (.q 1 (.q 2 (.q 3 (.q 4 (.q 5 (.q 6 ((.l 7 [] (.done)))))))))) Kr ?_))
 refine qG (k:=4) rfl rfl rfl rfl υ'24 rfl ζ'22 rfl ?_
 refine qP (j:=4) rfl rfl rfl rfl α'22 Tk Az (by rfl) ?_
 refine qG (k:=4) rfl rfl rfl rfl υ'24 rfl ζ'22 rfl ?_
 refine qP (j:=4) rfl rfl rfl rfl α'22 Tk Az (by rfl) ?_
 refine cJ rfl rfl rfl rfl υ'22 ?_
 refine cS (A:=own 1 encZ ao17 cp17 (pl++[(-7)])) Tk ?_
 refine own_fc fun wt1 wt2 wt3=>?_
 have hwt1:=wt1
 simp only [List.length_append,List.length_singleton] at hwt1
 refine q_cut_hi (h':=n) rfl rfl rfl rfl rfl υ'22 ζ'3 (by first | rfl | omega) Om ?_
 refine cS (A:=own 1 encZ ao17 cp17 ((pl)++([(-7)]))) Tk ?_
 refine own_fc fun f_1a f_1b f_1c=>?_
 refine qG (k:=4) rfl rfl rfl rfl υ'24 rfl ζ'22 rfl ?_
 refine kH (j:=4) rfl rfl rfl rfl ζ'22 (us:=[_]) rfl rfl rfl Tk Az (by first | decide | (simp;done) | omega) ?_
 simp only [setL,List.set]
 refine qV (qR (qW [1,5] (e':=[(1,_),(5,_)]) rfl ?_))
 refine qQ (qL (qC (.q 0 ((.l 1 [] (.q 2 (.q 3 (.q 4 (.q 5 (.q 6 (.done))))))))) Kr ?_))
 refine kG rfl rfl rfl rfl α'24 ζ'24 Tk 0 (us:=[_,_,_,_,_]) Az rfl rfl ?_
 have sp_2:=Dj.newbad_spec th va vo lk pl ao17 n cp17 (own 1 encZ ao17 cp17 (pl++[(-7)])) ((own_front encZ_len wt2 wt3)) Ln Om hok
 refine qM rfl rfl rfl rfl rfl rfl Tryz.call8 (sp_2) Ts ?_
 rintro ⟨⟩ -
 try simp only [Ca,Na]
 refine qV (qK rfl rfl rfl rfl (kY rfl rfl rfl rfl rfl (kY rfl rfl rfl rfl rfl (qS rfl rfl rfl rfl (qS rfl rfl rfl rfl (qR (qW [1,5,6,7] (e':=[(1,_),(5,_),(6,_),(7,_)]) rfl ?_)))))))
 refine qQ (qL (qC (.q 0 ((.l 1 [] (.q 2 (.q 3 (.q 4 (.q 5 (.q 6 (.done))))))))) Kr ?_))
 refine kG rfl rfl rfl rfl α'24 ζ'24 Tk 0 (us:=[_,_,_,_,_]) Az rfl rfl ?_
 have sp_3:=rnewbad_spec th va vo lk pl ao n c A (hr) Ln Om hok
 refine qM rfl rfl rfl rfl rfl rfl Tryz.call17 (sp_3) Ts ?_
 rintro ⟨⟩ -
 try simp only [Ca,Na]
 refine qV (qK rfl rfl rfl rfl (kY rfl rfl rfl rfl rfl (kY rfl rfl rfl rfl rfl (qS rfl rfl rfl rfl (qS rfl rfl rfl rfl (qR (qW [1,5,6,7,8,9] (e':=[(1,_),(5,_),(6,_),(7,_),(8,_),(9,_)]) rfl ?_)))))))
 refine qQ (qL (qL (qC (.q 0 (.done)) Kr ?_)))
 refine qS rfl rfl rfl rfl (qR (qQ (kC ?_)))
 refine cH (α:=Nat × List Int) (fun (x_:Nat × List Int)=>match x_ with | (z,f)=>z≤n∧(f.length=n+1)∧(f[n]?=some (-7))∧(∀ j:Nat,z≤j→j < n→f[j]?=pl[j]?)) (fun (x_:Nat × List Int)=>match x_ with | (z,f)=>[(10,.int .i64 ((z:Nat):Int))]) (fun (x_:Nat × List Int)=>match x_ with | (z,f)=>[cells b5 0 [.int .i64 th,.int .i64 va,.int .i64 vo,.int .i64 lk,.slice ao17 n cp17],own 1 encZ ao17 cp17 f]) (fun (x_:Nat × List Int)=>match x_ with | (z,f)=>n - z) [1,5,6,7,8,9] (er:=[(1,_),(5,_),(6,_),(7,_),(8,_),(9,_)]) rfl (0,(pl++[(-7)])) ?_ (by exact ⟨rfl,trivial⟩) (by (try dsimp only);(try simp only [Ad,Zd]);(repeat ((with_reducible apply Z2);focus (first | (with_reducible (repeat (first | exact Z0 | apply Z1));done) | (repeat (first | exact Z0 | apply Z1)))));exact Z3) ?_
 · exact ⟨Nat.zero_le _,by rw [List.length_append,hn];rfl,by rw [← hn];exact app_at _ _,fun j _ hj=>List.getElem?_append_left Om⟩
 rintro ⟨z,f⟩ ⟨hle_z,hfl,hfe,hfq⟩
 try simp only [Ca,Na]
 refine qL (qL (qC (.q 0 (.q 1 (.q 2 (.q 3 (.q 4 (.done)))))) Kr ?_))
 refine qK rfl rfl rfl rfl (qG (k:=4) rfl rfl rfl rfl υ'24 rfl ζ'22 rfl ?_)
 refine qP (j:=4) rfl rfl rfl rfl α'22 Tk Az (by rfl) ?_
 refine cJ rfl rfl rfl rfl υ'22 ?_
 refine qB rfl rfl rfl rfl rfl (cB _ _ _ _) ?_
 refine qR (qW [1,5,6,7,8,9,10,40] (e':=[(1,_),(5,_),(6,_),(7,_),(8,_),(9,_),(10,_),(40,_)]) rfl ?_)
 refine qQ ?_
 refine qD rfl (fun hlt=>?_) (fun hlt=>?_)
 ·
  refine qF (qQ (qL (kC (qL (qL ?_)))))
  obtain ⟨p,hp⟩:=cR (l:=pl) (i:=z) Om
  have hpf:f[z]?=some p:=(hfq z (Nat.le_refl _) Om).trans hp
  refine kL rfl (.q 0 (.q 1 (.q 2 (.q 3 (.q 4 (.q 5 (.q 6 (.q 7 (.q 8 (.q 9 (.q 10 (.done)))))))))))) Kr ?_
  refine qG (k:=4) rfl rfl rfl rfl υ'24 rfl ζ'22 rfl ?_
  refine qP (j:=4) rfl rfl rfl rfl α'22 Tk Az (by rfl) ?_
  refine qK rfl rfl rfl rfl (kF (sz:=0) (k:=z) (enc:=encZ) (xs:=f) rfl rfl rfl rfl rfl υ'22 ζ'3 hpf (by first | rfl | omega) Om Tk ?_)
  intro ib46 io46 ha46 hl46 hc46
  refine kS (v:=(.int .i64 p)) (j:=0) (k':=z) (enc:=encZ) (off:=io46) rfl rfl rfl rfl α'3 ha46 encZ_len hpf Tk (by first | rfl | exact (Ad _).symm | omega) (by rfl) ?_
  refine qG (k:=4) rfl rfl rfl rfl υ'24 rfl ζ'22 rfl ?_
  refine qP (j:=4) rfl rfl rfl rfl α'22 Tk Az (by rfl) ?_
  refine qK rfl rfl rfl rfl (q_idxR (sz:=0) (k:=z) rfl rfl rfl rfl rfl υ'22 ζ'3 (hr) hp encZ_len (by first | rfl | omega) Om ?_)
  intro ib51 io51 _ hd51
  refine q_load rfl rfl rfl rfl α'3 Tk (hd51 0 (.int .i64 p) rfl) ?_
  refine qB rfl rfl rfl rfl rfl (b_neq _ _ _ _) ?_
  refine kB 53 rfl (v':=.bool false) (by first | rfl | simp) ?_
  refine qR (qW [1,5,6,7,8,9,10,53] (e':=[(1,_),(5,_),(6,_),(7,_),(8,_),(9,_),(10,_),(53,_)]) rfl ?_)
  refine qQ (kZ rfl ?_)
  refine qF (qQ (qC (.q 0 (.q 1 (.q 2 (.q 3 ((.l 4 [] (.done))))))) Kr ?_))
  refine qG (k:=4) rfl rfl rfl rfl υ'24 rfl ζ'22 rfl ?_
  refine qP (j:=4) rfl rfl rfl rfl α'22 Tk Az (by rfl) ?_
  refine qK rfl rfl rfl rfl (kF (sz:=0) (k:=z) (enc:=encZ) (xs:=f) rfl rfl rfl rfl rfl υ'22 ζ'3 hpf (by first | rfl | omega) Om Tk ?_)
  intro ib59 io59 ha59 hl59 hc59
  refine sK (j:=0) (k:=z) (q:=1) (enc:=encZ) (off:=io59) rfl rfl rfl rfl ζ'3 (us:=[_]) rfl rfl rfl ha59 encZ_len hpf Tk (by first | rfl | exact (Ad _).symm | omega) (by first | decide | exact Nat.le_of_ble_eq_true rfl) (by rfl) ?_
  refine qV (qR (qW [1,5,6,7,8,9,10] (e':=[(1,_),(5,_),(6,_),(7,_),(8,_),(9,_),(10,_)]) rfl ?_))
  refine kX (qQ (qC (.q 0 (.q 1 (.q 2 (.done)))) Kr ?_))
  refine qK rfl rfl rfl rfl (qB rfl rfl rfl rfl rfl (cV _ (by exact kP Om Om)) ?_)
  refine qS rfl rfl rfl rfl (qR (qQ ?_))
  refine kJ (x:=(z,f)) ((z+1,f.set z 1)) ?_ ?_ ?_ ?_
  · try dsimp only
    exact ⟨by omega,by rw [List.length_set];exact hfl,by rw [List.getElem?_set_ne Om];exact hfe,fun j h1 h2=>by rw [List.getElem?_set_ne Om];exact hfq j Om h2⟩
  · show n - (z+1) < n - z;omega
  · exact ⟨rfl,rfl,rfl,rfl,rfl,rfl,rfl,trivial⟩
  · (try simp only [Ca,Na]);exact Tf
 refine cW (qY (qY (kK (qQ (qL ?_)))))
 have hfe2:f[n]?=some (-7):=hfe
 refine kL rfl (.q 0 (.q 1 (.q 2 (.q 4 ((.l 3 [] (.q 5 (.q 6 (.q 7 (.q 8 (.q 9 (.q 10 (.q 11 (.q 12 (.q 13 (.q 14 (.q 15 (.q 16 (.q 17 (.q 18 (.q 19 (.q 20 (.q 21 (.q 22 (.q 23 (.q 24 (.q 25 (.q 26 (.q 27 (.q 28 (.q 29 (.q 30 (.done))))))))))))))))))))))))))))))))) Kr ?_
 refine qK rfl rfl rfl rfl (qK rfl rfl rfl rfl (qK rfl rfl rfl rfl (qK rfl rfl rfl rfl ?_)))
 have sp_4:=num_spec 5
 refine qM rfl rfl rfl rfl rfl rfl κ'11 (sp_4) Ts ?_
 rintro ⟨⟩ -
 try simp only [Ca,Na]
 refine qV (qB rfl rfl rfl rfl rfl (cP _ _ _ _) ?_)
 refine kB 65 rfl (v':=.bool true) (by first | rfl | simp) ?_
 refine qK rfl rfl rfl rfl (qK rfl rfl rfl rfl (cG rfl rfl rfl rfl υ'29 ?_))
 refine kB 68 rfl (v':=.bool true) rfl ?_
 refine qK rfl rfl rfl rfl (cG rfl rfl rfl rfl υ'30 ?_)
 refine kB 70 rfl (v':=.bool true) rfl ?_
 refine q_eqb rfl rfl rfl rfl rfl υ'4 ?_
 refine kB 71 rfl (v':=.bool true) rfl ?_
 refine kW rfl rfl rfl rfl rfl (qK rfl rfl rfl rfl (qG (k:=4) rfl rfl rfl rfl υ'24 rfl ζ'22 rfl ?_))
 refine qP (j:=4) rfl rfl rfl rfl α'22 Tk Az (by rfl) ?_
 refine qG (k:=4) rfl rfl rfl rfl υ'24 rfl ζ'22 rfl ?_
 refine qP (j:=4) rfl rfl rfl rfl α'22 Tk Az (by rfl) ?_
 refine cJ rfl rfl rfl rfl υ'22 ?_
 refine qB rfl rfl rfl rfl rfl (cV _ (by exact kP Om Om)) ?_
 refine q_cut_hi (h':=n+1) rfl rfl rfl rfl rfl υ'22 ζ'3 (by first | rfl | omega) Om ?_
 refine cS (A:=own 1 encZ ao17 cp17 f) Tk ?_
 refine own_fc fun f_5a f_5b f_5c=>?_
 refine qG (k:=4) rfl rfl rfl rfl υ'24 rfl ζ'22 rfl ?_
 refine qP (j:=4) rfl rfl rfl rfl α'22 Tk Az (by rfl) ?_
 refine cJ rfl rfl rfl rfl υ'22 ?_
 refine kF (sz:=0) (k:=n) (enc:=encZ) (xs:=f) rfl rfl rfl rfl rfl υ'22 ζ'3 hfe2 (by first | rfl | omega) Om Tk ?_
 intro ib84 io84 ha84 hl84 hc84
 refine kS (v:=(.int .i64 (-7))) (j:=0) (k':=n) (enc:=encZ) (off:=io84) rfl rfl rfl rfl α'3 ha84 encZ_len hfe2 Tk (by first | rfl | exact (Ad _).symm | omega) (by rfl) ?_
 refine qB rfl rfl rfl rfl rfl (cP _ _ _ _) ?_
 refine kB 86 rfl (v':=.bool true) (by first | rfl | simp) ?_
 refine kW rfl rfl rfl rfl rfl (qS rfl rfl rfl rfl (qS rfl rfl rfl rfl (qS rfl rfl rfl rfl (qR (qW [2,3,4] (e':=[(2,_),(3,_),(4,_)]) rfl ?_)))))
 refine qQ (qJ (retL (us:=[_,_,_]) rfl ⟨rv_tmp rfl,rv_tmp rfl,rv_tmp rfl,trivial⟩ (()) (by first | rfl | (first | rfl | (congr 1;done) | (congr 1 <;> first | rfl | omega | (simp;done) | (simp;omega)))) (by trivial) ?_))
 exact Tf
theorem plays_ok (th va vo lk:Int) (pl:List Int) (ao:Option Addr) (n c:Nat) (A:HProp) (hr:RdS A ao (pl.flatMap encZ)) (hn:pl.length=n) (hb:n≤4000000) (L:List ST7) (so:Option Addr) (m sc:Nat) (hs:RdS A so (L.flatMap enc7)) (hL:∀ x∈L,RdS A x.2.2.2.1.1 (x.2.2.2.1.2.2.flatMap enc3)∧x.2.2.2.1.2.2.length≤1500000) (hm:L.length=m) (hmb:m≤1200000) (hok:OkS th va vo lk pl):Spec Tryz.prog 3 [.agg #[.int .i64 th,.int .i64 va,.int .i64 vo,.int .i64 lk,.slice ao n c,.slice so m sc]] [A] (fun (_:Unit)=>.bool true) (fun _=>True) (fun _=>[A]):=by
 refine kQ (n:=70) Tryz.func3 rfl rfl rfl ?_
 intro Γ w0
 simp only [argE,Ca,Na,Zd,Nat.reduceAdd]
 refine qL (qC ((.l 0 [] (.q 1 (.done)))) Kr ?_)
 refine sP rfl rfl rfl rfl (us:=[_,_,_,_,_,_]) rfl ?_
 intro b1
 refine qV (qS rfl rfl rfl rfl (qR (qQ (qL (qL (qC ((.l 0 [] (.q 1 (.done)))) Kr ?_))))))
 refine qM rfl rfl rfl rfl rfl rfl Tryz.call4 (works_spec) Ts ?_
 rintro ⟨⟩ -
 try simp only [Ca,Na]
 refine qV (sY rfl rfl rfl rfl ?_)
 refine kB 11 rfl (v':=.bool false) rfl ?_
 refine qR (qQ (kZ rfl ?_))
 refine qF (qQ (qL (qC (.q 0 (.q 1 ((.l 2 [] (.q 3 (.q 4 (.q 5 (.q 6 (.q 7 (.q 8 (.q 9 (.done)))))))))))) Kr ?_)))
 refine qG (k:=0) rfl rfl rfl rfl υ'27 rfl ζ'24 rfl ?_
 refine kG rfl rfl rfl rfl α'24 ζ'24 Tk 0 (us:=[_,_,_,_,_]) Az rfl rfl ?_
 have sp_1:=begun_ok th va vo lk pl ao n c A hr hn hb hok
 refine qM rfl rfl rfl rfl rfl rfl Tryz.call5 (sp_1) Ts ?_
 rintro ⟨d,⟨dpa,dpc⟩,⟨dpo,dpoc⟩,u,upa,upc⟩ -
 try dsimp only
 try simp only [Ca,Na]
 refine qV (qK rfl rfl rfl rfl (kY rfl rfl rfl rfl rfl (kY rfl rfl rfl rfl rfl (kY rfl rfl rfl rfl rfl (qS rfl rfl rfl rfl (qS rfl rfl rfl rfl (qS rfl rfl rfl rfl (qR ?_))))))))
 refine qW [1,3,4,5] (e':=[(1,_),(3,_),(4,_),(5,_)]) rfl ?_
 refine qQ (qL (qL (qC (.q 0 (.q 1 (.done))) Kr ?_)))
 refine qK rfl rfl rfl rfl (sY rfl rfl rfl rfl ?_)
 refine kB 20 rfl (v':=.bool false) rfl ?_
 refine qR (qQ (kZ rfl ?_))
 refine qF (qQ (qL (qC (.q 0 ((.l 1 [] (.q 2 (.done))))) Kr ?_)))
 refine cC rfl rfl rfl rfl (vs:=[_,_,_,_,_,_,_,_]) (kV υ'39 Tryz.zeroValue39 (ps:=[(0,2),(2,2),(4,1),(5,1),(6,1),(7,1)]) ⟨rfl,ζ'34,rfl,ζ'35,rfl,ζ'36,rfl,ζ'36,rfl,ζ'37,rfl,ζ'37,trivial⟩ rfl) ?_
 refine sP rfl rfl rfl rfl (us:=[_,_,_,_,_,_,_,_]) rfl ?_
 intro b22
 refine qV (qS rfl rfl rfl rfl (qR (qW [1,3,4,6] (e':=[(1,_),(3,_),(4,_),(6,_)]) rfl ?_)))
 refine qQ (qL (qC (.q 0 (.q 1 (.q 2 (.q 3 (.q 4 ((.l 5 [] (.done)))))))) Kr ?_))
 refine qK rfl rfl rfl rfl (qK rfl rfl rfl rfl (qX rfl rfl rfl rfl (qG (k:=0) rfl rfl rfl rfl υ'39 rfl ζ'34 rfl ?_)))
 refine q_idxA (k:=0) rfl rfl rfl rfl rfl υ'34 ζ'29 (by first | rfl | omega) (by decide) ?_
 refine kH (j:=0) rfl rfl rfl rfl ζ'29 (us:=[_]) rfl rfl rfl Tk Az (by first | decide | (simp;done) | omega) ?_
 simp only [setL,List.set]
 refine qV (qR (qW [1,4,6] (e':=[(1,_),(4,_),(6,_)]) rfl ?_))
 refine qQ (qL (qC (.q 0 (.q 1 ((.l 2 [] (.q 3 (.q 4 (.q 5 ((.l 6 [] (.done)))))))))) Kr ?_))
 refine qK rfl rfl rfl rfl (cC rfl rfl rfl rfl (vs:=[_,_,_]) (kV υ'43 ω'43 (ps:=[(0,1),(1,1),(2,1)]) ⟨rfl,ζ'40,rfl,ζ'41,rfl,ζ'3,trivial⟩ rfl) ?_)
 refine sP rfl rfl rfl rfl (us:=[_,_,_]) rfl ?_
 intro b30
 refine qV (qX rfl rfl rfl rfl (qG (k:=0) rfl rfl rfl rfl υ'39 rfl ζ'34 rfl ?_))
 refine q_idxA (k:=1) rfl rfl rfl rfl rfl υ'34 ζ'29 (by first | rfl | omega) (by decide) ?_
 refine kH (j:=1) rfl rfl rfl rfl ζ'29 (us:=[_]) rfl rfl rfl Tk Az (by first | decide | (simp;done) | omega) ?_
 simp only [setL,List.set]
 refine qV (qR (qW [1,4,6] (e':=[(1,_),(4,_),(6,_)]) rfl ?_))
 refine qQ (qL (qC (.q 0 (.q 1 (.q 2 (.q 3 (.q 4 ((.l 5 [] (.done)))))))) Kr ?_))
 refine qK rfl rfl rfl rfl (qK rfl rfl rfl rfl (qX rfl rfl rfl rfl (qG (k:=2) rfl rfl rfl rfl υ'39 rfl ζ'35 rfl ?_)))
 refine q_idxA (k:=0) rfl rfl rfl rfl rfl υ'35 ζ'30 (by first | rfl | omega) (by decide) ?_
 refine kH (j:=2) rfl rfl rfl rfl ζ'30 (us:=[_]) rfl rfl rfl Tk Az (by first | decide | (simp;done) | omega) ?_
 simp only [setL,List.set]
 refine qV (qR (cQ (fun _ h=>sR (sz:=1) (enc:=(encH:LstA Int→List Value)) h) ?_))
 refine cQ (fun _ h=>sR (sz:=1) (enc:=(encH:LstA Int→List Value)) h) ?_
 refine cQ (fun _ h=>sR (sz:=1) (enc:=(encH:LstA T2→List Value)) h) ?_
 refine cQ (fun _ h=>sR (sz:=1) (enc:=(encH:LstA T2→List Value)) h) ?_
 refine s_big_nil (f:=owA 1 encU) ?_
 refine s_big_nil (f:=owA 1 encU) ?_
 refine s_big_nil (f:=owA 2 enc2) ?_
 refine s_big_nil (f:=owA 2 enc2) ?_
 refine tab_fold (b:=b22) (o0:=(some ⟨d,0,none⟩)) (o1:=some ⟨b30,0,none⟩) (r0:=(some ⟨u,0,none⟩)) (r1:=none) (C:=[]) (W:=[]) (F:=[]) (G:=[]) (ca:=none) (cc:=0) (wa:=none) (wc:=0) (fa:=none) (fc:=0) (ga:=none) (gc:=0) Ts rfl rfl rfl rfl ?_
 refine own_zero9 (pa:=dpa) (pc:=dpc) (po:=dpo) (poc:=dpoc) b30 Tk ?_
 refine ref_none9 (ra:=upa) (rc:=upc) ?_
 refine own_some9 (pa:=dpa) (pc:=dpc) (po:=dpo) (poc:=dpoc) d (dNew th va vo lk pl) Tk ?_
 refine ref_some9 (ra:=upa) (rc:=upc) u (dNew th va vo lk pl) Tk ?_
 refine qW [1,6] (e':=[(1,_),(6,_)]) rfl ?_
 refine qQ (qL (qL (qC (.q 0 (.done)) Kr ?_)))
 refine qS rfl rfl rfl rfl (qR (qQ (kC ?_)))
 refine cH (α:=Nat × TS) (fun (x_:Nat × TS)=>match x_ with | (i,T)=>i≤m∧(TOk pl (i) (((i:Nat):Int)*1500000) T)) (fun (x_:Nat × TS)=>match x_ with | (i,T)=>[(7,.int .i64 ((i:Nat):Int))]) (fun (x_:Nat × TS)=>match x_ with | (i,T)=>[tabR b22 T.o0 T.o1 T.r0 T.r1 T.B,ownP dpa dpc dpo dpoc T.o0 T.m0,ownP dpa dpc dpo dpoc T.o1 T.m1,refP upa upc T.r0 T.m0,refP upa upc T.r1 T.m1,own 1 encZ dpa dpc pl,own 1 encZ dpo dpoc pl,own 1 encZ upa upc pl]) (fun (x_:Nat × TS)=>match x_ with | (i,T)=>m - i) [1,6] (er:=[(1,_),(6,_)]) rfl (0,⟨(some ⟨d,0,none⟩),some ⟨b30,0,none⟩,(some ⟨u,0,none⟩),none,(some (dNew th va vo lk pl)),none,⟨[],[],[],[]⟩⟩) ?_ (by exact ⟨rfl,trivial⟩) (by (try dsimp only);(repeat ((with_reducible apply Z2);focus (first | (with_reducible (repeat (first | exact Z0 | apply Z1));done) | (repeat (first | exact Z0 | apply Z1)))));exact Z3) ?_
 · exact ⟨Nat.zero_le _,⟨by simpa using sok_new hok,sok_none,bok_nil⟩⟩
 rintro ⟨i,T⟩ ⟨hle_i,hT⟩
 try simp only [Ca,Na]
 refine qL (qL (qC (.q 0 (.q 1 (.q 2 (.q 3 (.q 4 (.done)))))) Kr ?_))
 refine qK rfl rfl rfl rfl (qG (k:=5) rfl rfl rfl rfl υ'27 rfl ζ'25 rfl ?_)
 refine qP (j:=5) rfl rfl rfl rfl α'25 Tk Az (by rfl) ?_
 refine cJ rfl rfl rfl rfl υ'25 ?_
 refine qB rfl rfl rfl rfl rfl (cB _ _ _ _) ?_
 refine qR (qW [1,6,7,43] (e':=[(1,_),(6,_),(7,_),(43,_)]) rfl ?_)
 refine qQ ?_
 refine qD rfl (fun hlt=>?_) (fun hlt=>?_)
 ·
  refine qF (qQ (qL (kC (qL (qC (.q 0 (.q 1 (.q 2 (.q 3 (.q 4 (.q 5 ((.l 6 [] (.q 7 (.done)))))))))) Kr ?_)))))
  refine qK rfl rfl rfl rfl (qG (k:=5) rfl rfl rfl rfl υ'27 rfl ζ'25 rfl ?_)
  refine qP (j:=5) rfl rfl rfl rfl α'25 Tk Az (by rfl) ?_
  refine qK rfl rfl rfl rfl ?_
  obtain ⟨s_,hs_⟩:=cR (l:=L) (i:=i) (by first | omega | (simp;done) | (simp;omega))
  refine q_idxR (sz:=6) (k:=i) rfl rfl rfl rfl rfl υ'25 ζ'50 (hs) hs_ enc7_len (by first | rfl | omega) Om ?_
  intro ib50 io50 _ hd50
  refine q_loadN (vs:=[_,_,_,_,_,_,_]) rfl rfl rfl rfl α'50 ζ'50 Tk (hd50) rfl ?_
  have sp_2:=step_spec b22 T.o0 T.o1 T.r0 T.r1 T.B i hT.B Om dpa dpc dpo dpoc upa upc T.m0 T.m1 pl (((i:Nat):Int)*1500000) Om hT.m0 hT.m1 s_.1 s_.2.1 s_.2.2.1.1 s_.2.2.1.2.1 s_.2.2.1.2.2 s_.2.2.2.2 s_.2.2.2.1.2.2 s_.2.2.2.1.1 s_.2.2.2.1.2.2.length s_.2.2.2.1.2.1 A (hL _ (List.mem_of_getElem? hs_)).1 (rfl) ((hL _ (List.mem_of_getElem? hs_)).2)
  refine qM rfl rfl rfl rfl rfl rfl κ'6 (sp_2) Ts ?_
  rintro T2 hT2
  try simp only [Ca,Na]
  refine qV (sY rfl rfl rfl rfl ?_)
  refine kB 53 rfl (v':=.bool false) rfl ?_
  refine qR (qW [1,6,7,53] (e':=[(1,_),(6,_),(7,_),(53,_)]) rfl ?_)
  refine qQ (kZ rfl ?_)
  refine qF (kX (qQ (qC (.q 0 (.q 1 (.q 2 (.done)))) Kr ?_)))
  refine qK rfl rfl rfl rfl (qB rfl rfl rfl rfl rfl (cV _ (by exact kP Om Om)) ?_)
  refine qS rfl rfl rfl rfl (qR (qQ ?_))
  refine kJ (x:=(i,T)) ((i+1,T2)) ?_ ?_ ?_ ?_
  · try dsimp only
    exact ⟨by omega,tok_eq hT2 rfl Om⟩
  · show m - (i+1) < m - i;omega
  · exact ⟨rfl,rfl,rfl,trivial⟩
  · (try simp only [Ca,Na]);exact Tf
 refine cW (qY (qY (kK (qQ (qL (qL ?_))))))
 obtain rfl:i=m:=by omega
 refine qC (.q 0 (.done)) Kr ?_
 refine qS rfl rfl rfl rfl (qR (qQ (kC ?_)))
 refine cH (α:=Nat × TS) (fun (x_:Nat × TS)=>match x_ with | (y,T)=>y≤2∧(TOk pl (i+5*y) (((i+5*y:Nat):Int)*1500000) T)) (fun (x_:Nat × TS)=>match x_ with | (y,T)=>[(8,.int .i64 ((y:Nat):Int))]) (fun (x_:Nat × TS)=>match x_ with | (y,T)=>[tabR b22 T.o0 T.o1 T.r0 T.r1 T.B,ownP dpa dpc dpo dpoc T.o0 T.m0,ownP dpa dpc dpo dpoc T.o1 T.m1,refP upa upc T.r0 T.m0,refP upa upc T.r1 T.m1,own 1 encZ dpa dpc pl,own 1 encZ dpo dpoc pl,own 1 encZ upa upc pl]) (fun (x_:Nat × TS)=>match x_ with | (y,T)=>2 - y) [6] (er:=[(6,_)]) rfl (0,T) ?_ (by exact ⟨rfl,trivial⟩) (by (try dsimp only);(try simp only [Ad,Zd]);(repeat ((with_reducible apply Z2);focus (first | (with_reducible (repeat (first | exact Z0 | apply Z1));done) | (repeat (first | exact Z0 | apply Z1)))));exact Z3) ?_
 · exact ⟨Nat.zero_le _,hT⟩
 rintro ⟨y,T⟩ ⟨hle_y,hT⟩
 try simp only [Ca,Na]
 refine qL (qL (qC (.q 0 (.q 1 (.done))) Kr ?_))
 refine qK rfl rfl rfl rfl (qB rfl rfl rfl rfl rfl (cB _ _ _ _) ?_)
 refine qR (qQ ?_)
 refine qD rfl (fun hly=>?_) (fun hly=>?_)
 ·
  refine qF (qQ (qL (kC (qL (qC (.q 0 (.done)) Kr ?_)))))
  refine qS rfl rfl rfl rfl (qR (qQ (kC ?_)))
  refine cH (α:=Nat × TS) (fun (x_:Nat × TS)=>match x_ with | (q,T)=>q≤5∧(TOk pl (i+5*y+q) (((i+5*y+q:Nat):Int)*1500000) T)) (fun (x_:Nat × TS)=>match x_ with | (q,T)=>[(9,.int .i64 ((q+2:Nat):Int))]) (fun (x_:Nat × TS)=>match x_ with | (q,T)=>[tabR b22 T.o0 T.o1 T.r0 T.r1 T.B,ownP dpa dpc dpo dpoc T.o0 T.m0,ownP dpa dpc dpo dpoc T.o1 T.m1,refP upa upc T.r0 T.m0,refP upa upc T.r1 T.m1,own 1 encZ dpa dpc pl,own 1 encZ dpo dpoc pl,own 1 encZ upa upc pl]) (fun (x_:Nat × TS)=>match x_ with | (q,T)=>5 - q) [6,8] (er:=[(6,_),(8,_)]) rfl (0,T) ?_ (by exact ⟨rfl,trivial⟩) (by (try dsimp only);(try simp only [Ad,Zd]);(repeat ((with_reducible apply Z2);focus (first | (with_reducible (repeat (first | exact Z0 | apply Z1));done) | (repeat (first | exact Z0 | apply Z1)))));exact Z3) ?_
  · exact ⟨Nat.zero_le _,hT⟩
  rintro ⟨q,T⟩ ⟨hle_q,hT⟩
  try simp only [Ca,Na]
  refine qL (qL (qC (.q 0 (.q 1 (.done))) Kr ?_))
  refine qK rfl rfl rfl rfl (qB rfl rfl rfl rfl rfl (b_leq _ _ _ _) ?_)
  refine qR (qQ ?_)
  refine qD rfl (fun hlq=>?_) (fun hlq=>?_)
  ·
   refine qF (qQ (qL (kC (qL (qC (.q 0 (.q 1 (.q 2 (.q 3 ((.l 4 [] (.q 5 (.done)))))))) Kr ?_)))))
   refine qK rfl rfl rfl rfl (qK rfl rfl rfl rfl (qK rfl rfl rfl rfl (cC rfl rfl rfl rfl (vs:=[_,_,_,_,_,_,_]) (kV υ'50 Tryz.zeroValue50 (ps:=[(0,1),(1,1),(2,3),(5,1),(6,1)]) ⟨rfl,ζ'3,rfl,ζ'3,rfl,ζ'47,rfl,ζ'48,rfl,ζ'3,trivial⟩ rfl) ?_)))
   have sp_3:=step_spec b22 T.o0 T.o1 T.r0 T.r1 T.B (i+5*y+q) hT.B Om dpa dpc dpo dpoc upa upc T.m0 T.m1 pl (((i+5*y+q:Nat):Int)*1500000) Om hT.m0 hT.m1 ((q+2:Nat):Int) ((y:Nat):Int) 0 0 0 0 ([]) none 0 0 A (.inl rfl) (rfl) (Nat.zero_le _)
   refine qM rfl rfl rfl rfl rfl rfl κ'6 (sp_3) Ts ?_
   rintro T2 hT2
   try simp only [Ca,Na]
   refine qV (sY rfl rfl rfl rfl ?_)
   refine kB 67 rfl (v':=.bool false) rfl ?_
   refine qR (qW [6,8,9,67] (e':=[(6,_),(8,_),(9,_),(67,_)]) rfl ?_)
   refine qQ (kZ rfl ?_)
   refine qF (kX (qQ (qC (.q 0 (.q 1 (.q 2 (.done)))) Kr ?_)))
   refine qK rfl rfl rfl rfl (qB rfl rfl rfl rfl rfl (cV _ (by exact kP Om Om)) ?_)
   refine qS rfl rfl rfl rfl (qR (qQ ?_))
   refine kJ (x:=(q,T)) ((q+1,T2)) ?_ ?_ ?_ ?_
   · try dsimp only
     exact ⟨by omega,tok_eq hT2 Om Om⟩
   · show 5 - (q+1) < 5 - q;omega
   · exact ⟨rfl,rfl,rfl,trivial⟩
   · (try simp only [Ca,Na]);exact Tf
  refine cW (qY (qY (kK (kX (qQ (qC (.q 0 (.q 1 (.q 2 (.done)))) Kr ?_))))))
  refine qK rfl rfl rfl rfl (qB rfl rfl rfl rfl rfl (cV _ (by exact kP Om Om)) ?_)
  refine qS rfl rfl rfl rfl (qR (qW [6,8] (e':=[(6,_),(8,_)]) rfl ?_))
  refine qQ ?_
  refine kJ (x:=(y,T)) ((y+1,T)) ?_ ?_ ?_ ?_
  · try dsimp only
    exact ⟨by omega,tok_eq hT Om Om⟩
  · show 2 - (y+1) < 2 - y;omega
  · exact ⟨rfl,rfl,trivial⟩
  · (try simp only [Ca,Na]);exact Tf
 refine cW (qY (qY (kK (qQ (qL (qC (.q 0 ((.l 1 [] (.q 2 (.done))))) Kr ?_))))))
 refine qK rfl rfl rfl rfl ?_
 have sp_4:=apart_spec b22 (i+5*y) T.o0 T.o1 T.r0 T.r1 T.B hT.B Om
 refine qM rfl rfl rfl rfl rfl rfl Tryz.call7 (sp_4) Ts ?_
 rintro ⟨⟩ -
 try simp only [Ca,Na]
 refine qV (qS rfl rfl rfl rfl (qR (qW [2] (e':=[(2,_)]) rfl ?_)))
 refine qQ (qJ (kD rfl rfl (()) (by first | rfl | (first | rfl | (congr 1;done) | (congr 1 <;> first | rfl | omega | (simp;done) | (simp;omega)))) (by trivial) ?_))
 exact Tf
theorem plays_bad (th va vo lk:Int) (pl:List Int) (ao:Option Addr) (n c:Nat) (A:HProp) (hr:RdS A ao (pl.flatMap encZ)) (hn:pl.length=n) (hb:n≤4000000) (L:List ST7) (so:Option Addr) (m sc:Nat) (hs:RdS A so (L.flatMap enc7)) (hL:∀ x∈L,RdS A x.2.2.2.1.1 (x.2.2.2.1.2.2.flatMap enc3)∧x.2.2.2.1.2.2.length≤1500000) (hm:L.length=m) (hmb:m≤1200000) (hok:¬ OkS th va vo lk pl):Spec Tryz.prog 3 [.agg #[.int .i64 th,.int .i64 va,.int .i64 vo,.int .i64 lk,.slice ao n c,.slice so m sc]] [A] (fun (_:Unit)=>.bool true) (fun _=>True) (fun _=>[A]):=by
 refine kQ (n:=70) Tryz.func3 rfl rfl rfl ?_
 intro Γ w0
 simp only [argE,Ca,Na,Zd,Nat.reduceAdd]
 refine qL (qC ((.l 0 [] (.q 1 (.done)))) Kr ?_)
 refine sP rfl rfl rfl rfl (us:=[_,_,_,_,_,_]) rfl ?_
 intro b1
 refine qV (qS rfl rfl rfl rfl (qR (qQ (qL (qL (qC ((.l 0 [] (.q 1 (.done)))) Kr ?_))))))
 refine qM rfl rfl rfl rfl rfl rfl Tryz.call4 (works_spec) Ts ?_
 rintro ⟨⟩ -
 try simp only [Ca,Na]
 refine qV (sY rfl rfl rfl rfl ?_)
 refine kB 11 rfl (v':=.bool false) rfl ?_
 refine qR (qQ (kZ rfl ?_))
 refine qF (qQ (qL (qC (.q 0 (.q 1 ((.l 2 [] (.q 3 (.q 4 (.q 5 (.q 6 (.q 7 (.q 8 (.q 9 (.done)))))))))))) Kr ?_)))
 refine qG (k:=0) rfl rfl rfl rfl υ'27 rfl ζ'24 rfl ?_
 refine kG rfl rfl rfl rfl α'24 ζ'24 Tk 0 (us:=[_,_,_,_,_]) Az rfl rfl ?_
 have sp_1:=begun_bad th va vo lk pl ao n c A hr hn hb hok
 refine qM rfl rfl rfl rfl rfl rfl Tryz.call5 (sp_1) Ts ?_
 rintro ⟨⟩ -
 try simp only [Ca,Na]
 refine qV (qK rfl rfl rfl rfl (kY rfl rfl rfl rfl rfl (kY rfl rfl rfl rfl rfl (kY rfl rfl rfl rfl rfl (qS rfl rfl rfl rfl (qS rfl rfl rfl rfl (qS rfl rfl rfl rfl (qR ?_))))))))
 refine qW [1,3,4,5] (e':=[(1,_),(3,_),(4,_),(5,_)]) rfl ?_
 refine qQ (qL (qL (qC (.q 0 (.q 1 (.done))) Kr ?_)))
 refine qK rfl rfl rfl rfl (sY rfl rfl rfl rfl ?_)
 refine kB 20 rfl (v':=.bool false) rfl ?_
 refine qR (qQ (kZ rfl ?_))
 refine qF (qQ (qL (qC (.q 0 ((.l 1 [] (.q 2 (.done))))) Kr ?_)))
 refine cC rfl rfl rfl rfl (vs:=[_,_,_,_,_,_,_,_]) (kV υ'39 Tryz.zeroValue39 (ps:=[(0,2),(2,2),(4,1),(5,1),(6,1),(7,1)]) ⟨rfl,ζ'34,rfl,ζ'35,rfl,ζ'36,rfl,ζ'36,rfl,ζ'37,rfl,ζ'37,trivial⟩ rfl) ?_
 refine sP rfl rfl rfl rfl (us:=[_,_,_,_,_,_,_,_]) rfl ?_
 intro b22
 refine qV (qS rfl rfl rfl rfl (qR (qW [1,3,4,6] (e':=[(1,_),(3,_),(4,_),(6,_)]) rfl ?_)))
 refine qQ (qL (qC (.q 0 (.q 1 (.q 2 (.q 3 (.q 4 ((.l 5 [] (.done)))))))) Kr ?_))
 refine qK rfl rfl rfl rfl (qK rfl rfl rfl rfl (qX rfl rfl rfl rfl (qG (k:=0) rfl rfl rfl rfl υ'39 rfl ζ'34 rfl ?_)))
 refine q_idxA (k:=0) rfl rfl rfl rfl rfl υ'34 ζ'29 (by first | rfl | omega) (by decide) ?_
 refine kH (j:=0) rfl rfl rfl rfl ζ'29 (us:=[_]) rfl rfl rfl Tk Az (by first | decide | (simp;done) | omega) ?_
 simp only [setL,List.set]
 refine qV (qR (qW [1,4,6] (e':=[(1,_),(4,_),(6,_)]) rfl ?_))
 refine qQ (qL (qC (.q 0 (.q 1 ((.l 2 [] (.q 3 (.q 4 (.q 5 ((.l 6 [] (.done)))))))))) Kr ?_))
 refine qK rfl rfl rfl rfl (cC rfl rfl rfl rfl (vs:=[_,_,_]) (kV υ'43 ω'43 (ps:=[(0,1),(1,1),(2,1)]) ⟨rfl,ζ'40,rfl,ζ'41,rfl,ζ'3,trivial⟩ rfl) ?_)
 refine sP rfl rfl rfl rfl (us:=[_,_,_]) rfl ?_
 intro b30
 refine qV (qX rfl rfl rfl rfl (qG (k:=0) rfl rfl rfl rfl υ'39 rfl ζ'34 rfl ?_))
 refine q_idxA (k:=1) rfl rfl rfl rfl rfl υ'34 ζ'29 (by first | rfl | omega) (by decide) ?_
 refine kH (j:=1) rfl rfl rfl rfl ζ'29 (us:=[_]) rfl rfl rfl Tk Az (by first | decide | (simp;done) | omega) ?_
 simp only [setL,List.set]
 refine qV (qR (qW [1,4,6] (e':=[(1,_),(4,_),(6,_)]) rfl ?_))
 refine qQ (qL (qC (.q 0 (.q 1 (.q 2 (.q 3 (.q 4 ((.l 5 [] (.done)))))))) Kr ?_))
 refine qK rfl rfl rfl rfl (qK rfl rfl rfl rfl (qX rfl rfl rfl rfl (qG (k:=2) rfl rfl rfl rfl υ'39 rfl ζ'35 rfl ?_)))
 refine q_idxA (k:=0) rfl rfl rfl rfl rfl υ'35 ζ'30 (by first | rfl | omega) (by decide) ?_
 refine kH (j:=2) rfl rfl rfl rfl ζ'30 (us:=[_]) rfl rfl rfl Tk Az (by first | decide | (simp;done) | omega) ?_
 simp only [setL,List.set]
 refine qV (qR (cQ (fun _ h=>sR (sz:=1) (enc:=(encH:LstA Int→List Value)) h) ?_))
 refine cQ (fun _ h=>sR (sz:=1) (enc:=(encH:LstA Int→List Value)) h) ?_
 refine cQ (fun _ h=>sR (sz:=1) (enc:=(encH:LstA T2→List Value)) h) ?_
 refine cQ (fun _ h=>sR (sz:=1) (enc:=(encH:LstA T2→List Value)) h) ?_
 refine s_big_nil (f:=owA 1 encU) ?_
 refine s_big_nil (f:=owA 1 encU) ?_
 refine s_big_nil (f:=owA 2 enc2) ?_
 refine s_big_nil (f:=owA 2 enc2) ?_
 refine tab_fold (b:=b22) (o0:=none) (o1:=some ⟨b30,0,none⟩) (r0:=none) (r1:=none) (C:=[]) (W:=[]) (F:=[]) (G:=[]) (ca:=none) (cc:=0) (wa:=none) (wc:=0) (fa:=none) (fc:=0) (ga:=none) (gc:=0) Ts rfl rfl rfl rfl ?_
 refine own_zero9 (pa:=none) (pc:=0) (po:=none) (poc:=0) b30 Tk ?_
 refine ref_none9 (ra:=none) (rc:=0) ?_
 refine own_none9 (pa:=none) (pc:=0) (po:=none) (poc:=0) ?_
 refine ref_none9 (ra:=none) (rc:=0) ?_
 refine cQ (fun _ h=>sR (sz:=1) (enc:=encZ) h) ?_
 refine cQ (fun _ h=>sR (sz:=1) (enc:=encZ) h) ?_
 refine cQ (fun _ h=>sR (sz:=1) (enc:=encZ) h) ?_
 refine qW [1,6] (e':=[(1,_),(6,_)]) rfl ?_
 refine qQ (qL (qL (qC (.q 0 (.done)) Kr ?_)))
 refine qS rfl rfl rfl rfl (qR (qQ (kC ?_)))
 refine cH (α:=Nat × TS) (fun (x_:Nat × TS)=>match x_ with | (i,T)=>i≤m∧(TOk [] (i) (((i:Nat):Int)*1500000) T)) (fun (x_:Nat × TS)=>match x_ with | (i,T)=>[(7,.int .i64 ((i:Nat):Int))]) (fun (x_:Nat × TS)=>match x_ with | (i,T)=>[tabR b22 T.o0 T.o1 T.r0 T.r1 T.B,ownP none 0 none 0 T.o0 T.m0,ownP none 0 none 0 T.o1 T.m1,refP none 0 T.r0 T.m0,refP none 0 T.r1 T.m1,own 1 encZ none 0 [],own 1 encZ none 0 [],own 1 encZ none 0 []]) (fun (x_:Nat × TS)=>match x_ with | (i,T)=>m - i) [1,6] (er:=[(1,_),(6,_)]) rfl (0,⟨none,some ⟨b30,0,none⟩,none,none,none,none,⟨[],[],[],[]⟩⟩) ?_ (by exact ⟨rfl,trivial⟩) (by (try dsimp only);(repeat ((with_reducible apply Z2);focus (first | (with_reducible (repeat (first | exact Z0 | apply Z1));done) | (repeat (first | exact Z0 | apply Z1)))));exact Z3) ?_
 · exact ⟨Nat.zero_le _,⟨sok_none,sok_none,bok_nil⟩⟩
 rintro ⟨i,T⟩ ⟨hle_i,hT⟩
 try simp only [Ca,Na]
 refine qL (qL (qC (.q 0 (.q 1 (.q 2 (.q 3 (.q 4 (.done)))))) Kr ?_))
 refine qK rfl rfl rfl rfl (qG (k:=5) rfl rfl rfl rfl υ'27 rfl ζ'25 rfl ?_)
 refine qP (j:=5) rfl rfl rfl rfl α'25 Tk Az (by rfl) ?_
 refine cJ rfl rfl rfl rfl υ'25 ?_
 refine qB rfl rfl rfl rfl rfl (cB _ _ _ _) ?_
 refine qR (qW [1,6,7,43] (e':=[(1,_),(6,_),(7,_),(43,_)]) rfl ?_)
 refine qQ ?_
 refine qD rfl (fun hlt=>?_) (fun hlt=>?_)
 ·
  refine qF (qQ (qL (kC (qL (qC (.q 0 (.q 1 (.q 2 (.q 3 (.q 4 (.q 5 ((.l 6 [] (.q 7 (.done)))))))))) Kr ?_)))))
  refine qK rfl rfl rfl rfl (qG (k:=5) rfl rfl rfl rfl υ'27 rfl ζ'25 rfl ?_)
  refine qP (j:=5) rfl rfl rfl rfl α'25 Tk Az (by rfl) ?_
  refine qK rfl rfl rfl rfl ?_
  obtain ⟨s_,hs_⟩:=cR (l:=L) (i:=i) (by first | omega | (simp;done) | (simp;omega))
  refine q_idxR (sz:=6) (k:=i) rfl rfl rfl rfl rfl υ'25 ζ'50 (hs) hs_ enc7_len (by first | rfl | omega) Om ?_
  intro ib50 io50 _ hd50
  refine q_loadN (vs:=[_,_,_,_,_,_,_]) rfl rfl rfl rfl α'50 ζ'50 Tk (hd50) rfl ?_
  have sp_2:=step_spec b22 T.o0 T.o1 T.r0 T.r1 T.B i hT.B Om none 0 none 0 none 0 T.m0 T.m1 [] (((i:Nat):Int)*1500000) Om hT.m0 hT.m1 s_.1 s_.2.1 s_.2.2.1.1 s_.2.2.1.2.1 s_.2.2.1.2.2 s_.2.2.2.2 s_.2.2.2.1.2.2 s_.2.2.2.1.1 s_.2.2.2.1.2.2.length s_.2.2.2.1.2.1 A (hL _ (List.mem_of_getElem? hs_)).1 (rfl) ((hL _ (List.mem_of_getElem? hs_)).2)
  refine qM rfl rfl rfl rfl rfl rfl κ'6 (sp_2) Ts ?_
  rintro T2 hT2
  try simp only [Ca,Na]
  refine qV (sY rfl rfl rfl rfl ?_)
  refine kB 53 rfl (v':=.bool false) rfl ?_
  refine qR (qW [1,6,7,53] (e':=[(1,_),(6,_),(7,_),(53,_)]) rfl ?_)
  refine qQ (kZ rfl ?_)
  refine qF (kX (qQ (qC (.q 0 (.q 1 (.q 2 (.done)))) Kr ?_)))
  refine qK rfl rfl rfl rfl (qB rfl rfl rfl rfl rfl (cV _ (by exact kP Om Om)) ?_)
  refine qS rfl rfl rfl rfl (qR (qQ ?_))
  refine kJ (x:=(i,T)) ((i+1,T2)) ?_ ?_ ?_ ?_
  · try dsimp only
    exact ⟨by omega,tok_eq hT2 rfl Om⟩
  · show m - (i+1) < m - i;omega
  · exact ⟨rfl,rfl,rfl,trivial⟩
  · (try simp only [Ca,Na]);exact Tf
 refine cW (qY (qY (kK (qQ (qL (qL ?_))))))
 obtain rfl:i=m:=by omega
 refine qC (.q 0 (.done)) Kr ?_
 refine qS rfl rfl rfl rfl (qR (qQ (kC ?_)))
 refine cH (α:=Nat × TS) (fun (x_:Nat × TS)=>match x_ with | (y,T)=>y≤2∧(TOk [] (i+5*y) (((i+5*y:Nat):Int)*1500000) T)) (fun (x_:Nat × TS)=>match x_ with | (y,T)=>[(8,.int .i64 ((y:Nat):Int))]) (fun (x_:Nat × TS)=>match x_ with | (y,T)=>[tabR b22 T.o0 T.o1 T.r0 T.r1 T.B,ownP none 0 none 0 T.o0 T.m0,ownP none 0 none 0 T.o1 T.m1,refP none 0 T.r0 T.m0,refP none 0 T.r1 T.m1,own 1 encZ none 0 [],own 1 encZ none 0 [],own 1 encZ none 0 []]) (fun (x_:Nat × TS)=>match x_ with | (y,T)=>2 - y) [6] (er:=[(6,_)]) rfl (0,T) ?_ (by exact ⟨rfl,trivial⟩) (by (try dsimp only);(try simp only [Ad,Zd]);(repeat ((with_reducible apply Z2);focus (first | (with_reducible (repeat (first | exact Z0 | apply Z1));done) | (repeat (first | exact Z0 | apply Z1)))));exact Z3) ?_
 · exact ⟨Nat.zero_le _,hT⟩
 rintro ⟨y,T⟩ ⟨hle_y,hT⟩
 try simp only [Ca,Na]
 refine qL (qL (qC (.q 0 (.q 1 (.done))) Kr ?_))
 refine qK rfl rfl rfl rfl (qB rfl rfl rfl rfl rfl (cB _ _ _ _) ?_)
 refine qR (qQ ?_)
 refine qD rfl (fun hly=>?_) (fun hly=>?_)
 ·
  refine qF (qQ (qL (kC (qL (qC (.q 0 (.done)) Kr ?_)))))
  refine qS rfl rfl rfl rfl (qR (qQ (kC ?_)))
  refine cH (α:=Nat × TS) (fun (x_:Nat × TS)=>match x_ with | (q,T)=>q≤5∧(TOk [] (i+5*y+q) (((i+5*y+q:Nat):Int)*1500000) T)) (fun (x_:Nat × TS)=>match x_ with | (q,T)=>[(9,.int .i64 ((q+2:Nat):Int))]) (fun (x_:Nat × TS)=>match x_ with | (q,T)=>[tabR b22 T.o0 T.o1 T.r0 T.r1 T.B,ownP none 0 none 0 T.o0 T.m0,ownP none 0 none 0 T.o1 T.m1,refP none 0 T.r0 T.m0,refP none 0 T.r1 T.m1,own 1 encZ none 0 [],own 1 encZ none 0 [],own 1 encZ none 0 []]) (fun (x_:Nat × TS)=>match x_ with | (q,T)=>5 - q) [6,8] (er:=[(6,_),(8,_)]) rfl (0,T) ?_ (by exact ⟨rfl,trivial⟩) (by (try dsimp only);(try simp only [Ad,Zd]);(repeat ((with_reducible apply Z2);focus (first | (with_reducible (repeat (first | exact Z0 | apply Z1));done) | (repeat (first | exact Z0 | apply Z1)))));exact Z3) ?_
  · exact ⟨Nat.zero_le _,hT⟩
  rintro ⟨q,T⟩ ⟨hle_q,hT⟩
  try simp only [Ca,Na]
  refine qL (qL (qC (.q 0 (.q 1 (.done))) Kr ?_))
  refine qK rfl rfl rfl rfl (qB rfl rfl rfl rfl rfl (b_leq _ _ _ _) ?_)
  refine qR (qQ ?_)
  refine qD rfl (fun hlq=>?_) (fun hlq=>?_)
  ·
   refine qF (qQ (qL (kC (qL (qC (.q 0 (.q 1 (.q 2 (.q 3 ((.l 4 [] (.q 5 (.done)))))))) Kr ?_)))))
   refine qK rfl rfl rfl rfl (qK rfl rfl rfl rfl (qK rfl rfl rfl rfl (cC rfl rfl rfl rfl (vs:=[_,_,_,_,_,_,_]) (kV υ'50 Tryz.zeroValue50 (ps:=[(0,1),(1,1),(2,3),(5,1),(6,1)]) ⟨rfl,ζ'3,rfl,ζ'3,rfl,ζ'47,rfl,ζ'48,rfl,ζ'3,trivial⟩ rfl) ?_)))
   have sp_3:=step_spec b22 T.o0 T.o1 T.r0 T.r1 T.B (i+5*y+q) hT.B Om none 0 none 0 none 0 T.m0 T.m1 [] (((i+5*y+q:Nat):Int)*1500000) Om hT.m0 hT.m1 ((q+2:Nat):Int) ((y:Nat):Int) 0 0 0 0 ([]) none 0 0 A (.inl rfl) (rfl) (Nat.zero_le _)
   refine qM rfl rfl rfl rfl rfl rfl κ'6 (sp_3) Ts ?_
   rintro T2 hT2
   try simp only [Ca,Na]
   refine qV (sY rfl rfl rfl rfl ?_)
   refine kB 67 rfl (v':=.bool false) rfl ?_
   refine qR (qW [6,8,9,67] (e':=[(6,_),(8,_),(9,_),(67,_)]) rfl ?_)
   refine qQ (kZ rfl ?_)
   refine qF (kX (qQ (qC (.q 0 (.q 1 (.q 2 (.done)))) Kr ?_)))
   refine qK rfl rfl rfl rfl (qB rfl rfl rfl rfl rfl (cV _ (by exact kP Om Om)) ?_)
   refine qS rfl rfl rfl rfl (qR (qQ ?_))
   refine kJ (x:=(q,T)) ((q+1,T2)) ?_ ?_ ?_ ?_
   · try dsimp only
     exact ⟨by omega,tok_eq hT2 Om Om⟩
   · show 5 - (q+1) < 5 - q;omega
   · exact ⟨rfl,rfl,rfl,trivial⟩
   · (try simp only [Ca,Na]);exact Tf
  refine cW (qY (qY (kK (kX (qQ (qC (.q 0 (.q 1 (.q 2 (.done)))) Kr ?_))))))
  refine qK rfl rfl rfl rfl (qB rfl rfl rfl rfl rfl (cV _ (by exact kP Om Om)) ?_)
  refine qS rfl rfl rfl rfl (qR (qW [6,8] (e':=[(6,_),(8,_)]) rfl ?_))
  refine qQ ?_
  refine kJ (x:=(y,T)) ((y+1,T)) ?_ ?_ ?_ ?_
  · try dsimp only
    exact ⟨by omega,tok_eq hT Om Om⟩
  · show 2 - (y+1) < 2 - y;omega
  · exact ⟨rfl,rfl,trivial⟩
  · (try simp only [Ca,Na]);exact Tf
 refine cW (qY (qY (kK (qQ (qL (qC (.q 0 ((.l 1 [] (.q 2 (.done))))) Kr ?_))))))
 refine qK rfl rfl rfl rfl ?_
 have sp_4:=apart_spec b22 (i+5*y) T.o0 T.o1 T.r0 T.r1 T.B hT.B Om
 refine qM rfl rfl rfl rfl rfl rfl Tryz.call7 (sp_4) Ts ?_
 rintro ⟨⟩ -
 try simp only [Ca,Na]
 refine qV (qS rfl rfl rfl rfl (qR (qW [2] (e':=[(2,_)]) rfl ?_)))
 refine qQ (qJ (kD rfl rfl (()) (by first | rfl | (first | rfl | (congr 1;done) | (congr 1 <;> first | rfl | omega | (simp;done) | (simp;omega)))) (by trivial) ?_))
 exact Tf
theorem plays_spec (th va vo lk:Int) (pl:List Int) (ao:Option Addr) (n c:Nat) (A:HProp) (hr:RdS A ao (pl.flatMap encZ)) (hn:pl.length=n) (hb:n≤4000000) (L:List ST7) (so:Option Addr) (m sc:Nat) (hs:RdS A so (L.flatMap enc7)) (hL:∀ x∈L,RdS A x.2.2.2.1.1 (x.2.2.2.1.2.2.flatMap enc3)∧x.2.2.2.1.2.2.length≤1500000) (hm:L.length=m) (hmb:m≤1200000):Spec Tryz.prog 3 [.agg #[.int .i64 th,.int .i64 va,.int .i64 vo,.int .i64 lk,.slice ao n c,.slice so m sc]] [A] (fun (_:Unit)=>.bool true) (fun _=>True) (fun _=>[A]):=by
  by_cases hok:OkS th va vo lk pl
  · exact plays_ok th va vo lk pl ao n c A hr hn hb L so m sc hs hL hm hmb hok
  · exact plays_bad th va vo lk pl ao n c A hr hn hb L so m sc hs hL hm hmb hok
end Go.Ab.Rv
set_option linter.unusedVariables false
set_option linter.unusedSimpArgs false
namespace Go.Proofs.YtkoclbjiaofkhaaGreat.frame
open Go Go.Ab Go.ChangeShapes Go.WideShapes Go.ChangeAt Go.RowKit
/-! The bound. -/
theorem one_le {H:Type} (d:DataW H):1≤Rows.uptoBulk d:=by
  cases d with
  | lit l=>cases l <;> simp [Rows.uptoBulk]
  | nil=>simp [Rows.uptoBulk]
  | ptr d=>simp [Rows.uptoBulk]
  | slice elems spare=>simp [Rows.uptoBulk]
  | agg parts=>simp [Rows.uptoBulk]
  | iface t d=>simp [Rows.uptoBulk]
  | map entries=>simp [Rows.uptoBulk]
  | held h=>simp [Rows.uptoBulk]
theorem part_le {H:Type} {d:DataW H} {l:List (DataW H)} (h:d∈l):Rows.uptoBulk d≤Rows.uptoBulkAll l:=by
  induction l with
  | nil=>cases h
  | cons x r ih =>
    simp only [Rows.uptoBulkAll]
    cases List.mem_cons.1 h with
    | inl e=>subst e;omega
    | inr e=>have:=ih e;omega
theorem length_le {H:Type} (l:List (DataW H)):l.length≤Rows.uptoBulkAll l:=by
  induction l with
  | nil=>simp [Rows.uptoBulkAll]
  | cons x r ih=>have:=one_le x;simp only [Rows.uptoBulkAll,List.length_cons];omega
theorem bound {H:Type} {l:List (DataW H)} (hk:Rows.uptoSmall H l=true):Rows.uptoBulkAll l≤1048576:=of_decide_eq_true hk
theorem bound_mem {H:Type} {l:List (DataW H)} {d:DataW H} (hk:Rows.uptoSmall H l=true) (h:d∈l):Rows.uptoBulk d≤1048576:=Nat.le_trans (part_le h) (bound hk)
theorem bulk_slice {H:Type} {es rs:List (DataW H)} {d:DataW H} (h:d∈es):Rows.uptoBulk d≤Rows.uptoBulk (.slice es rs):=by
  have:=part_le h
  simp only [Rows.uptoBulk];omega
theorem bulk_len {H:Type} (es rs:List (DataW H)):es.length≤Rows.uptoBulk (.slice es rs):=by
  have:=length_le es
  simp only [Rows.uptoBulk];omega
/-! The arguments read behind the call as before. -/
theorem trodAll_below {H:Type} {enc:TypeId × Value→H} {P:Program} (hl:laidOutB P=true) {W W':World} (hb:Below W.heap.size W W'):∀ {ts:List TypeId} {vs:List Value} {ds:List (DataW H)} {ps:List MemPlace},(∀ t∈ts,P.readableRec t=true∧t < P.types.size) →
    DataW.TrodAll enc P W 0 (fun _=>true) true ts vs ds ps→(∀ x∈ps,x.block < W.heap.size)→DataW.TrodAll enc P W' 0 (fun b=>decide (b < W.heap.size)) true ts vs ds ps
  | [],[],[],_,_,h,_=>h
  | t::ts,v::vs,d::ds,ps,hr,⟨p,q,h,hs,e⟩,hlt=>by
    subst e
    exact ⟨p,q,Below.trod hl (hr t (by simp)).1 (hr t (by simp)).2 h hb (fun x hx=>hlt x (List.mem_append_left _ hx)),trodAll_below hl hb (fun t ht=>hr t (List.mem_cons_of_mem _ ht)) hs (fun x hx=>hlt x (List.mem_append_right _ hx)),rfl⟩
theorem law_post {H:Type} {enc:TypeId × Value→H} {P:Program} {f:Func} {s:ChangeSpec} {W W':World} {args:Array Value} {ds gs:List (DataW H)} {before:List MemPlace} {tb:TypeId}
    (hl:laidOutB P=true) (hr:∀ t∈f.params.toList,P.readableRec t=true∧t < P.types.size) (hvars:s.vars=[]) (hres:f.resultTypes=#[tb]) (hb:P.underlying tb=some .bool)
    (hf:s.fn H (ds++gs)={ results:=[.lit (.bool true)],args:=ds,vars:=[] }) (hW:DataW.Whole enc P f.params.toList s.vars false W args.toList ds gs before) (bel:Below W.heap.size W W'):s.post enc P f false true false false W args (.bool true) W':=by
  have hW':=hW
  obtain ⟨p,q,hA,hV,rfl,hfz,hnd⟩:=hW
  rw [hvars] at hV
  obtain ⟨rfl,rfl⟩:=trodVars_none hV
  have hA':DataW.TrodAll enc P W 0 (fun _=>true) true f.params.toList args.toList ds p:=hA
  refine ⟨ds,[],p++[],[],p,[],hW',?_,?_,?_,bel.frame _,fun h=>by cases h⟩
  · rw [hf,hres]
    exact trodAll_mk1 (shut_bool hb true)
  · rw [hf]
    exact trodAll_below hl bel hr hA' (fun x hx=>hW'.lt x (List.mem_append_left _ hx))
  · rw [hf,hvars]
    exact rfl
theorem spec_calls {P:Program} {f:FuncId} {args:List Value} {W:World} (h:Ab.Spec P f args [base W] (fun (_:Unit)=>.bool true) (fun _=>True) (fun _=>[base W])):Calls P f args.toArray W fun e W'=>e=.returned (.bool true)∧Below W.heap.size W W' :=
  (h [] W (base_self W)).mono fun e w' ⟨_,e1,_,s,a⟩=>⟨e1,below_of_base s a⟩
/-! Arguments are opened. -/
theorem spot_of_cell {W:World} {a:Addr} {v:Value} (h:W.cell? a=some v):a.spot=none:=by
  unfold World.cell? at h
  split at h
  · split at h
    · cases h
    · rename_i hs;simpa using hs
  · cases h
theorem choose_list {α:Type}:∀ (n:Nat) (Q:Nat→α→Prop),(∀ i,i < n→∃ x,Q i x)→∃ xs:List α,xs.length=n∧∀ i x,xs[i]?=some x→Q i x
  | 0,Q,_=>⟨[],rfl,fun i x h=>by simp at h⟩
  | n+1,Q,h=>by
    obtain ⟨xs,h1,h2⟩:=choose_list n Q (fun i hi=>h i Om)
    obtain ⟨x,hx⟩:=h n Om
    refine ⟨xs++[x],by simp [h1],fun i y hy=>?_⟩
    rcases Nat.lt_trichotomy i n with hi | hi | hi
    · rw [List.getElem?_append_left Om] at hy;exact h2 i y hy
    · subst hi;rw [List.getElem?_append_right Om,h1,Nat.sub_self] at hy;simp at hy;subst hy;exact hx
    · rw [List.getElem?_eq_none (by simp;omega)] at hy;cases hy
theorem rdn_flat_mk {α:Type} {A:HProp} {b sz:Nat} {enc:α→List Value} (hsz:∀ x,(enc x).length=sz):∀ (xs:List α) (o:Nat),(∀ i x,xs[i]?=some x→RdN A b (o+i*sz) (enc x))→RdN A b o (xs.flatMap enc)
  | [],o,_=>fun i v h=>by simp at h
  | x::xs,o,h=>fun i v hv=>by
    rw [List.flatMap_cons] at hv
    by_cases hi:i < (enc x).length
    · rw [List.getElem?_append_left hi] at hv
      have:=h 0 x rfl i v hv
      rwa [Nat.zero_mul,Ad] at this
    · rw [List.getElem?_append_right Om,hsz] at hv
      rw [hsz] at hi
      have ih:=rdn_flat_mk hsz xs (o+sz) (fun i y hy=>by
        have:=h (i+1) y (by simpa using hy)
        rw [Nat.succ_mul] at this
        rwa [show o+sz+i*sz=o+(i*sz+sz) from by omega])
      have:=ih (i - sz) v hv
      rwa [show o+sz+(i - sz)=o+i from by omega] at this
/-- A slice among what is read: its elements are opened by 'hel'. -/
theorem open_sl {α H:Type} {enc:TypeId × Value→H} {P:Program} {W:World} {t e:TypeId} {ao:Option Addr} {len cap sz fuel:Nat} {y:DataW H × List MemPlace} {enc':α→List Value} {Q:α→DataW H→Prop} (ht:P.underlying t=some (.slice e)) (hc:P.cellsOf e=sz+1) (hsz:∀ x,(enc' x).length=sz+1)
    (hel:∀ n cs y,DataW.trod enc P W 0 (fun _=>true) true n e cs=some y→cs.length=sz+1→∃ x:α,enc' x=cs∧Q x y.1)
    (h:DataW.trod enc P W 0 (fun _=>true) true fuel t [.slice ao len cap]=some y) :
    ∃ xs:List α,xs.length=len∧RdS (base W) ao (xs.flatMap enc')∧len≤cap∧cap≤maxLen∧xs.length≤Rows.uptoBulk y.1∧(∀ x∈xs,∃ d,Q x d∧Rows.uptoBulk d≤Rows.uptoBulk y.1)∧(ao=none→cap=0):=by
  rcases DataW.trod_slice ht h with ⟨h1,h2⟩ | ⟨a,len',cap',elems,rest,n,-,h1,h2,-,hl,hm,hlen,hel',-⟩
  · simp only [List.cons.injEq,Value.slice.injEq,and_true] at h1
    obtain ⟨rfl,rfl,rfl⟩:=h1
    exact ⟨[],rfl,.inl rfl,Nat.le_refl _,Nat.zero_le _,Nat.zero_le _,fun _ h=>(by cases h),fun _=>rfl⟩
  · simp only [List.cons.injEq,Value.slice.injEq,and_true] at h1
    obtain ⟨rfl,rfl,rfl⟩:=h1
    subst h2
    have key:∀ i,i < len→∃ x:α,∃ cs y,W.cells? 0 (a.add (i*(sz+1))) (sz+1)=some cs∧elems[i]?=some y∧enc' x=cs∧Q x y.1:=by
      intro i hi
      have h3:=hel' i hi
      rw [List.getElem?_eq_getElem Om,hc,Option.bind_eq_some_iff] at h3
      obtain ⟨cs,h4,h5⟩:=h3
      have h6:=World.cells?_some h4
      obtain ⟨x,hx,hq⟩:=hel n cs _ h5 (by have:=mapM_some_length (by unfold World.cells? at h4;rwa [if_pos (Nat.zero_le _)] at h4);simpa using this)
      exact ⟨x,cs,_,h4,List.getElem?_eq_getElem Om,hx,hq⟩
    obtain ⟨xs,hx1,hx2⟩:=choose_list len _ key
    have hcell:∀ i x,xs[i]?=some x→∀ j v,(enc' x)[j]?=some v→W.cell? ((a.add (i*(sz+1))).add j)=some v:=by
      intro i x hx j v hv
      obtain ⟨cs,y,h4,-,h5,-⟩:=hx2 i x hx
      subst h5
      unfold World.cells? at h4
      rw [if_pos (Nat.zero_le _)] at h4
      have hj:j < sz+1:=by rw [← hsz x];exact (List.getElem?_eq_some_iff.1 hv).1
      have:=mapM_some_get h4 j j (by simp [hj])
      rw [this,hv]
    refine ⟨xs,hx1,?_,hl,hm,?_,?_,fun h=>by cases h⟩
    · cases hxs:xs with
      | nil=>exact .inl rfl
      | cons x0 xs' =>
        obtain ⟨v0,hv0⟩:=cR (l:=enc' x0) (i:=0) (by rw [hsz];omega)
        have h6:=hcell 0 x0 (by rw [hxs];rfl) 0 v0 hv0
        rw [Nat.zero_mul] at h6
        have hsp:a.spot=none:=spot_of_cell (by simpa [Addr.add] using h6)
        obtain ⟨b,o,sp⟩:=a
        simp only at hsp
        subst hsp
        refine .inr ⟨b,o,rfl,?_⟩
        rw [← hxs]
        refine rdn_flat_mk hsz xs o fun i x hx j v hv=>rd_base ?_
        have:=hcell i x hx j v hv
        rwa [add_none,add_none] at this
    · have:=bulk_len (elems.map (·.1)) (rest.map (·.1))
      rw [List.length_map,hlen] at this
      rw [hx1];exact this
    · intro x hx
      obtain ⟨i,hi⟩:=List.getElem?_of_mem hx
      obtain ⟨cs,y,-,h5,-,h7⟩:=hx2 i x hi
      exact ⟨y.1,h7,bulk_slice (List.mem_map_of_mem (List.mem_of_getElem? h5))⟩
/-- A slice of an element of a slice. -/
theorem el_sl {α H:Type} {enc:TypeId × Value→H} {P:Program} {W:World} {t e:TypeId} {sz:Nat} {enc':α→List Value} {Q:α→DataW H→Prop} (ht:P.underlying t=some (.slice e)) (hc:P.cellsOf e=sz+1) (hsz:∀ x,(enc' x).length=sz+1)
    (hel:∀ n cs y,DataW.trod enc P W 0 (fun _=>true) true n e cs=some y→cs.length=sz+1→∃ x:α,enc' x=cs∧Q x y.1)
    (n:Nat) (cs:List Value) (y:DataW H × List MemPlace) (h:DataW.trod enc P W 0 (fun _=>true) true n t cs=some y) (hl:cs.length=0+1) :
    ∃ x:LstA α,encH x=cs∧(RdS (base W) x.1 (x.2.2.flatMap enc')∧x.2.2.length≤Rows.uptoBulk y.1∧(∀ z∈x.2.2,∃ d,Q z d∧Rows.uptoBulk d≤Rows.uptoBulk y.1)∧x.2.2.length≤x.2.1):=by
  have h0:∃ ao len cap,cs=[.slice ao len cap]:=by
    rcases DataW.trod_slice ht h with ⟨h1,-⟩ | ⟨a,len',cap',elems,rest,n,-,h1,-⟩
    · exact ⟨_,_,_,h1⟩
    · exact ⟨_,_,_,h1⟩
  obtain ⟨ao,len,cap,rfl⟩:=h0
  obtain ⟨xs,h1,h2,h3,h4,h5,h6,h7⟩:=open_sl ht hc hsz hel h
  subst h1
  exact ⟨(ao,cap,xs),rfl,h2,h5,h6,h3⟩
/-- An integer. -/
theorem el_int {H:Type} {enc:TypeId × Value→H} {P:Program} {W:World} {e:TypeId} {k:IntKind} (he:P.underlying e=some (.int k)) (n:Nat) (cs:List Value) (y:DataW H × List MemPlace) (h:DataW.trod enc P W 0 (fun _=>true) true n e cs=some y) (hl:cs.length=0+1):∃ x:Int,[Value.int k x]=cs∧(Lit.int k x).wf=true:=by
  obtain ⟨m,rfl,rfl,hw⟩:=DataW.trod_int he h
  exact ⟨m,rfl,hw⟩
end Go.Proofs.YtkoclbjiaofkhaaGreat.frame
set_option linter.unusedVariables false
set_option linter.unusedSimpArgs false
namespace Go.Proofs.YtkoclbjiaofkhaaGreat.frame
open Go Go.Ab Go.ChangeShapes Go.WideShapes Go.ChangeAt Go.RowKit
variable {α β H:Type} {enc:TypeId × Value→H} {P:Program} {W:World} {e:TypeId} {fs:Array Field} {m:Nat} {cs:List Value} {B:Nat}
/-- How an element of type e is opened. -/
abbrev El (enc:TypeId × Value→H) (P:Program) (W:World) (e:TypeId) (sz:Nat) (encA:α→List Value) (Q:α→DataW H→Prop):Prop :=
  ∀ n cs y,DataW.trod enc P W 0 (fun _=>true) true n e cs=some y→cs.length=sz→∃ x:α,encA x=cs∧Q x y.1
/-- What is known of the fields from i on. -/
def FR (enc:TypeId × Value→H) (P:Program) (W:World) (fs:Array Field) (m i:Nat) (cs:List Value) (B:Nat):Prop :=
  ∀ j f,i≤j→fs[j]?=some f→∃ y:DataW H × List MemPlace,DataW.trod enc P W 0 (fun _=>true) true m f.type ((cs.drop f.offset).take (P.cellsOf f.type))=some y∧Rows.uptoBulk y.1≤B
theorem fr_start {n:Nat} {y:DataW H × List MemPlace} (he:P.underlying e=some (.struct fs)) (h:DataW.trod enc P W 0 (fun _=>true) true n e cs=some y):∃ m,FR enc P W fs m 0 cs (Rows.uptoBulk y.1):=by
  obtain ⟨xs,m,-,hy,-,hxs,hf⟩:=DataW.trod_struct he h
  refine ⟨m,fun j f _ hj=>?_⟩
  have hlt:j < xs.length:=by rw [hxs];exact (Array.getElem?_eq_some_iff.1 hj).1
  have:=hf j f hj
  rw [List.getElem?_eq_getElem hlt] at this
  refine ⟨_,this,?_⟩
  rw [hy]
  have hp:=part_le (l:=xs.map (·.1)) (d:=xs[j].1) (List.mem_map_of_mem (List.getElem_mem hlt))
  simp only [Rows.uptoBulk]
  omega
/-- Fields from i on, opened. -/
abbrev Fo (enc:TypeId × Value→H) (P:Program) (W:World) (fs:Array Field) (i off sz:Nat) (encA:α→List Value) (Q:α→Nat→Prop):Prop :=
  ∀ m cs B,FR enc P W fs m i cs B→cs.length=off+sz→∃ x:α,encA x=cs.drop off∧Q x B
theorem fo_last {i off sz:Nat} {f:Field} {encA:α→List Value} {Q:α→DataW H→Prop} (hf:fs[i]?=some f) (ho:f.offset=off) (hc:P.cellsOf f.type=sz) (el:El enc P W f.type sz encA Q) :
    Fo enc P W fs i off sz encA (fun x B=>∃ d,Q x d∧Rows.uptoBulk d≤B):=by
  intro m cs B h hl
  obtain ⟨y,hy,hb⟩:=h i f (Nat.le_refl _) hf
  rw [ho,hc,List.take_of_length_le (by rw [List.length_drop];omega)] at hy
  obtain ⟨x,hx,hq⟩:=el m _ y hy (by rw [List.length_drop];omega)
  exact ⟨x,hx,y.1,hq,hb⟩
theorem fo_cons {i off sz n:Nat} {f:Field} {encA:α→List Value} {Q:α→DataW H→Prop} {encB:β→List Value} {R:β→Nat→Prop} (hf:fs[i]?=some f) (ho:f.offset=off) (hc:P.cellsOf f.type=sz) (el:El enc P W f.type sz encA Q)
    (rest:Fo enc P W fs (i+1) (off+sz) n encB R):Fo enc P W fs i off (sz+n) (fun x:α × β=>encA x.1++encB x.2) (fun x B=>(∃ d,Q x.1 d∧Rows.uptoBulk d≤B)∧R x.2 B):=by
  intro m cs B h hl
  obtain ⟨y,hy,hb⟩:=h i f (Nat.le_refl _) hf
  rw [ho,hc] at hy
  obtain ⟨x,hx,hq⟩:=el m _ y hy (by rw [List.length_take,List.length_drop];omega)
  obtain ⟨z,hz,hr⟩:=rest m cs B (fun j g hj hg=>h j g Om hg) Om
  refine ⟨(x,z),?_,⟨y.1,hq,hb⟩,hr⟩
  show encA x++encB z=_
  rw [hx,hz,← List.drop_drop,List.take_append_drop]
theorem el_struct {sz:Nat} {encA:α→List Value} {Q:α→Nat→Prop} (he:P.underlying e=some (.struct fs)) (fo:Fo enc P W fs 0 0 sz encA Q):El enc P W e sz encA (fun x d=>Q x (Rows.uptoBulk d)):=by
  intro n cs y h hl
  obtain ⟨m,hm⟩:=fr_start he h
  obtain ⟨x,hx,hq⟩:=fo m cs _ hm Om
  exact ⟨x,hx,hq⟩
/-- A struct handed in. -/
theorem arg_struct {t:TypeId} {v:Value} {d:DataW H} {ps:List MemPlace} {bs sz:Nat} {encA:α→List Value} {Q:α→DataW H→Prop} (ht:P.underlying t=some (.struct fs)) (hc:P.cellsOf t=sz) (el:El enc P W t sz encA Q)
    (hval:Value.okWide P W .any bs t v) (h:DataW.Trod enc P W 0 (fun _=>true) true t v d ps):∃ x:α,v=.agg (encA x).toArray∧Q x d:=by
  obtain ⟨cs,rfl,hs⟩:=okWide_struct ht hval
  obtain ⟨n,hn⟩:=h
  obtain ⟨x,hx,hq⟩:=el n cs.toList (d,ps) (by simpa [Value.cells] using hn) (by simpa [hc] using hs)
  exact ⟨x,by rw [hx],hq⟩
end Go.Proofs.YtkoclbjiaofkhaaGreat.frame
