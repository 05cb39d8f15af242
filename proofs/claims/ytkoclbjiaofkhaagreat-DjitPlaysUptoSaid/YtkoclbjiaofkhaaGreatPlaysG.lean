/- What the law Plays rests on, part 7 of 8. -/
import Derived.Test.YtkoclbjiaofkhaaGreatPlaysF
set_option linter.unusedVariables false
set_option linter.unusedSimpArgs false
set_option maxRecDepth 100000
namespace Go.Ab.Rv
open Go Go.Proofs Go.Ab Go.Ab.Fe Go.Ab.Vc Go.Ab.Dj
abbrev zc (b:Nat):HProp:=cells b 0 [.pointer none,.slice none 0 0,.int .i64 0]
/-- Package djit's detector in a place. -/
def ownP (pa:Option Addr) (pc:Nat) (po:Option Addr) (poc:Nat) (o:Option Addr):Option DS→HProp
  | none=>fun h=>o=none∨∃ b,o=some ⟨b,0,none⟩∧zc b h
  | some x=>fun h=>∃ b,o=some ⟨b,0,none⟩∧dR pa pc po poc b x h
/-- The document's detector in a place. -/
def refP (ra:Option Addr) (rc:Nat) (r:Option Addr):Option DS→HProp
  | none=>fun _=>r=none
  | some x=>fun h=>∃ b,r=some ⟨b,0,none⟩∧rdR ra rc b x h
/-- The head of a fresh block, if there is one. -/
def hdP (r:Option Addr):HProp:=fun h=>∀ a,r=some a→∃ b,a=⟨b,0,none⟩∧headP b 3 h
section
variable {P:Program} {f:FuncId} {args:List Value} {Δ:List HProp} {α:Type} {v:α→Value} {φ:α→Prop} {Δ':α→List HProp}
theorem own_up {pa:Option Addr} {pc:Nat} {po:Option Addr} {poc:Nat} {o:Option Addr} {m:Option DS} (m':α→Option DS) (a0:α) (v0:Value)
    (N:Spec P f (.pointer none::args) [] (fun (_:Unit)=>v0) (fun _=>True) (fun _=>[]))
    (Z:∀ b,Spec P f (.pointer (some ⟨b,0,none⟩)::args) [zc b] (fun (_:Unit)=>v0) (fun _=>True) (fun _=>[zc b]))
    (hn:m=none→v a0=v0∧φ a0∧m' a0=none∧∀ Γ h,Sat (Δ++Γ) h→Sat (Δ' a0++Γ) h)
    (hs:∀ x,m=some x→∃ x':α→DS,(∀ a,m' a=some (x' a))∧∀ b,o=some ⟨b,0,none⟩→Spec P f (.pointer (some ⟨b,0,none⟩)::args) (dR pa pc po poc b x::Δ) v φ (fun a=>dR pa pc po poc b (x' a)::Δ' a)) :
    Spec P f (.pointer o::args) (ownP pa pc po poc o m::Δ) v φ (fun a=>ownP pa pc po poc o (m' a)::Δ' a):=fun Γ w s=>by
  obtain ⟨h1,l1,a1,s1⟩:=s
  cases m with
  | none =>
    obtain ⟨e1,e2,e3,e4⟩:=hn rfl
    rcases a1 with rfl | ⟨b,rfl,a1⟩
    · refine (N (Δ++Γ) w (s1.mono (Hmin_le _ _))).mono fun e w' ⟨_,q1,_,s',a⟩=>⟨a0,by rw [q1,e1],e2,?_,a⟩
      show Sat (ownP pa pc po poc none (m' a0)::(Δ' a0++Γ)) _
      rw [e3]
      exact sat_free (.inl rfl) (e4 _ _ s')
    · refine (Z b (Δ++Γ) w ⟨h1,l1,a1,s1⟩).mono fun e w' ⟨_,q1,_,⟨h2,l2,a2,s2⟩,a⟩=>⟨a0,by rw [q1,e1],e2,?_,a⟩
      show Sat (ownP pa pc po poc (some ⟨b,0,none⟩) (m' a0)::(Δ' a0++Γ)) _
      rw [e3]
      exact ⟨h2,l2,.inr ⟨b,rfl,a2⟩,e4 _ _ s2⟩
  | some x =>
    obtain ⟨x',e1,k⟩:=hs x rfl
    obtain ⟨b,rfl,a1⟩:=a1
    refine (k b rfl Γ w ⟨h1,l1,a1,s1⟩).mono fun e w' ⟨y,q1,q2,⟨h2,l2,a2,s2⟩,a⟩=>⟨y,q1,q2,?_,a⟩
    show Sat (ownP pa pc po poc (some ⟨b,0,none⟩) (m' y)::(Δ' y++Γ)) _
    rw [e1]
    exact ⟨h2,l2,⟨b,rfl,a2⟩,s2⟩
theorem ref_up {ra:Option Addr} {rc:Nat} {o:Option Addr} {m:Option DS} (m':α→Option DS) (a0:α) (v0:Value)
    (N:Spec P f (.pointer none::args) [] (fun (_:Unit)=>v0) (fun _=>True) (fun _=>[]))
    (hn:m=none→v a0=v0∧φ a0∧m' a0=none∧∀ Γ h,Sat (Δ++Γ) h→Sat (Δ' a0++Γ) h)
    (hs:∀ x,m=some x→∃ x':α→DS,(∀ a,m' a=some (x' a))∧∀ b,o=some ⟨b,0,none⟩→Spec P f (.pointer (some ⟨b,0,none⟩)::args) (rdR ra rc b x::Δ) v φ (fun a=>rdR ra rc b (x' a)::Δ' a)) :
    Spec P f (.pointer o::args) (refP ra rc o m::Δ) v φ (fun a=>refP ra rc o (m' a)::Δ' a):=fun Γ w s=>by
  obtain ⟨h1,l1,a1,s1⟩:=s
  cases m with
  | none =>
    obtain ⟨e1,e2,e3,e4⟩:=hn rfl
    obtain rfl:o=none:=a1
    refine (N (Δ++Γ) w (s1.mono (Hmin_le _ _))).mono fun e w' ⟨_,q1,_,s',a⟩=>⟨a0,by rw [q1,e1],e2,?_,a⟩
    show Sat (refP ra rc none (m' a0)::(Δ' a0++Γ)) _
    rw [e3]
    exact sat_free rfl (e4 _ _ s')
  | some x =>
    obtain ⟨x',e1,k⟩:=hs x rfl
    obtain ⟨b,rfl,a1⟩:=a1
    refine (k b rfl Γ w ⟨h1,l1,a1,s1⟩).mono fun e w' ⟨y,q1,q2,⟨h2,l2,a2,s2⟩,a⟩=>⟨y,q1,q2,?_,a⟩
    show Sat (refP ra rc (some ⟨b,0,none⟩) (m' y)::(Δ' y++Γ)) _
    rw [e1]
    exact ⟨h2,l2,⟨b,rfl,a2⟩,s2⟩
end
/-! What a place answers. -/
def sE (m:Option DS) (k t o:Int):Int:=match m with | none=>1 | some x=>deE x k t o
def sFl (m:Option DS):List (Int × Int):=match m with | none=>[] | some x=>flF x.vs
def sW (m:Option DS) (z:Int):Option V4:=m.bind fun x=>wF x z
def sV (m:Option DS) (z:Int):List Int:=match m with | none=>[] | some x=>thF x.v z
def sN (m:Option DS):Int:=match m with | none=>0 | some x=>x.v.ck.n
def sC (m:Option DS):Int:=match m with | none=>0 | some x=>x.cost
/-- What is known of a place's detector. -/
def SOk (pl:List Int) (N:Int) (m:Option DS):Prop:=∀ x,m=some x→DInv x∧FgOk x∧x.v.ck.pa=pl∧x.v.ck.n≤N
/-- Events are done up to the first that cannot be. -/
def EvsOk (m:Option DS) (xs:List T3) (n i:Nat):Prop:=i≤n∧(m=none→i=0)∧∀ x,m=some x→okAll x (xs.take i)∧(i < n→∀ e,xs[i]?=some e→¬ canE (dAll x (xs.take i)) e)
def evsE (m:Option DS) (n i:Nat):Int:=match m with | none=>1 | some _=>if i=n then 0 else 6
theorem evs_uniq {m:Option DS} {xs:List T3} {n i j:Nat} (hn:xs.length=n) (hi:EvsOk m xs n i) (hj:EvsOk m xs n j):i=j:=by
  have key:∀ {x:DS} {i j:Nat},i < j→j≤n→okAll x (xs.take j)→(i < n→∀ e,xs[i]?=some e→¬ canE (dAll x (xs.take i)) e)→False:=fun {x i j} h1 h2 h3 h4=>by
    obtain ⟨e,he⟩:=cR (l:=xs) (i:=i) Om
    have h5:=h3 i e (by rw [List.getElem?_take_of_lt h1];exact he)
    rw [List.take_take,Nat.min_eq_left Om] at h5
    exact h4 Om e he h5
  cases m with
  | none=>rw [hi.2.1 rfl,hj.2.1 rfl]
  | some x =>
    obtain ⟨a1,a2⟩:=hi.2.2 x rfl
    obtain ⟨b1,b2⟩:=hj.2.2 x rfl
    rcases Nat.lt_trichotomy i j with h | h | h
    · exact (key h hj.1 b1 a2).elim
    · exact h
    · exact (key h hi.1 a1 b2).elim
theorem sok_map {pl:List Int} {N:Int} {m:Option DS} (h:SOk pl N m) (k t o:Int):SOk pl (N+1) (m.map fun x=>deF x k t o):=fun y hy=>by
  cases m with
  | none=>cases hy
  | some x =>
    obtain rfl:=Option.some.inj hy
    obtain ⟨h1,h2,h3,h4⟩:=h x rfl
    have h5:=de_n (x:=x) k t o
    exact ⟨de_inv h1 k t o,fgok_de h2 k t o,h5.2.1.trans h3,by have:=h5.1;show (deF x k t o).v.ck.n≤_;omega⟩
theorem sok_more {pl:List Int} {N M:Int} {m:Option DS} (h:SOk pl N m) (hN:N≤M):SOk pl M m:=fun x hx=>by
  obtain ⟨h1,h2,h3,h4⟩:=h x hx
  exact ⟨h1,h2,h3,by omega⟩
theorem sok_all {pl:List Int} {N M:Int} {m:Option DS} (h:SOk pl N m) (es:List T3) (hN:N+es.length≤M):SOk pl M (m.map fun x=>dAll x es):=fun y hy=>by
  cases m with
  | none=>cases hy
  | some x =>
    obtain rfl:=Option.some.inj hy
    obtain ⟨h1,h2,h3,h4⟩:=h x rfl
    have h5:=dAll_n es x
    have fg:∀ (es:List T3) (x:DS),FgOk x→FgOk (dAll x es):=fun es=>by
      induction es with
      | nil=>exact fun x h=>h
      | cons e es ih=>exact fun x h=>ih _ (fgok_de h _ _ _)
    exact ⟨dAll_inv h1 es,fg es x h2,h5.2.1.trans h3,by have:=h5.1;show (dAll x es).v.ck.n≤_;omega⟩
theorem dR_ne {pa:Option Addr} {pc:Nat} {po:Option Addr} {poc b r:Nat} {x y:DS} {Γ:List HProp} {h:Hp} (s:Sat (dR pa pc po poc b x::dR pa pc po poc r y::Γ) h):r≠b:=fun e=>by
  subst e
  obtain ⟨k1,l1,⟨_,_,_,_,_,c1,m1,b1,_⟩,k2,l2,⟨_,_,_,_,_,c2,m2,b2,_⟩,_⟩:=s
  have h1:=m1 _ _ (b1 0 _ rfl)
  have h2:=l2 _ _ (m2 _ _ (b2 0 _ rfl))
  have h3:=(sZ.1 h2).1
  rw [h1] at h3;cases h3
theorem dtheren:Spec Tryz.prog 25 [.pointer none] [] (fun (_:Unit)=>.bool false) (fun _=>True) (fun _=>[]):=by
 refine kQ (n:=12) Tryz.func25 rfl rfl rfl ?_
 intro Γ w0
 simp only [argE,Ca,Na,Zd,Nat.reduceAdd]
 refine qL (qC (.q 0 (.done)) Kr ?_)
 refine qS rfl rfl rfl rfl (qR (qQ (qL (qC (.q 0 (.q 1 (.q 2 (.q 3 (.q 4 (.q 5 (.q 6 (.q 7 (.q 8 (.q 9 (.done))))))))))) Kr ?_))))
 refine qK rfl rfl rfl rfl (q_ne_nil rfl rfl rfl rfl υ'29 ?_)
 refine kB 4 rfl (v':=.bool false) rfl ?_
 refine qK rfl rfl rfl rfl (qZ rfl rfl rfl rfl (qZ rfl rfl rfl rfl (qZ rfl rfl rfl rfl (qZ rfl rfl rfl rfl (qZ rfl rfl rfl rfl (kN rfl rfl rfl rfl rfl (qS rfl rfl rfl rfl (qR ?_))))))))
 refine qW [2] (e':=[(2,_)]) rfl ?_
 refine qQ (qJ (kD rfl rfl (()) (by first | rfl | (first | rfl | (congr 1;done) | (congr 1 <;> first | rfl | omega | (simp;done) | (simp;omega)))) (by trivial) ?_))
 exact Tf
theorem datn (z:Int):Spec Tryz.prog 91 [.pointer none,.int .i64 z] [] (fun (_:Unit)=>.pointer none) (fun _=>True) (fun _=>[]):=by
 refine kQ (n:=27) Tryz.func91 rfl rfl rfl ?_
 intro Γ w0
 simp only [argE,Ca,Na,Zd,Nat.reduceAdd]
 refine qL (qC (.q 0 (.done)) Kr ?_)
 refine qS rfl rfl rfl rfl (qR (qQ (qL (qL (qC (.q 0 ((.l 1 [] (.q 2 (.q 3 (.q 4 (.q 5 (.q 6 (.q 7 (.q 8 (.q 9 (.q 10 (.q 11 (.q 12 (.q 13 (.q 14 (.q 15 (.done)))))))))))))))))) Kr ?_)))))
 refine qK rfl rfl rfl rfl ?_
 have sp_1:=dtheren
 refine qM rfl rfl rfl rfl rfl rfl κ'25 (sp_1) Ts ?_
 rintro ⟨⟩ -
 try simp only [Ca,Na]
 refine qV (sY rfl rfl rfl rfl ?_)
 refine kB 7 rfl (v':=.bool true) rfl ?_
 refine qK rfl rfl rfl rfl (qZ rfl rfl rfl rfl (qZ rfl rfl rfl rfl (kW rfl rfl rfl rfl rfl (qK rfl rfl rfl rfl (qZ rfl rfl rfl rfl (qZ rfl rfl rfl rfl (qZ rfl rfl rfl rfl (qZ rfl rfl rfl rfl ?_))))))))
 refine qZ rfl rfl rfl rfl (qZ rfl rfl rfl rfl (qZ rfl rfl rfl rfl (kW rfl rfl rfl rfl rfl (qR (qW [0,1,20] (e':=[(0,_),(1,_),(20,_)]) rfl ?_)))))
 refine qQ (cK rfl ?_)
 refine qL (qC (.q 0 (.done)) Kr ?_)
 refine qS rfl rfl rfl rfl (qR (qQ (qJ (qN (kD rfl rfl (()) (by first | rfl | (first | rfl | (congr 1;done) | (congr 1 <;> first | rfl | omega | (simp;done) | (simp;omega)))) (by trivial) ?_)))))
 exact Tf
theorem devn (k t o:Int):Spec Tryz.prog 16 [.pointer none,.agg #[.int .i64 k,.int .i64 t,.int .i64 o]] [] (fun (_:Unit)=>.int .i64 1) (fun _=>True) (fun _=>[]):=by
 refine kQ (n:=128) Tryz.func16 rfl rfl rfl ?_
 intro Γ w0
 simp only [argE,Ca,Na,Zd,Nat.reduceAdd]
 refine qL (qC ((.l 0 [] (.q 1 (.done)))) Kr ?_)
 refine sP rfl rfl rfl rfl (us:=[_,_,_]) rfl ?_
 intro b3
 refine qV (qS rfl rfl rfl rfl (qR (qQ (qL (qL (qC (.q 0 ((.l 1 [] (.q 2 (.done))))) Kr ?_))))))
 refine qK rfl rfl rfl rfl ?_
 have sp_1:=dtheren
 refine qM rfl rfl rfl rfl rfl rfl κ'25 (sp_1) Ts ?_
 rintro ⟨⟩ -
 try simp only [Ca,Na]
 refine qV (sY rfl rfl rfl rfl ?_)
 refine kB 11 rfl (v':=.bool true) rfl ?_
 refine qR (qW [0,3,11] (e':=[(0,_),(3,_),(11,_)]) rfl ?_)
 refine qQ (cK rfl ?_)
 refine qL (qC (.q 0 (.done)) Kr ?_)
 refine qS rfl rfl rfl rfl (qR (qQ (qJ (qN (kD rfl rfl (()) (by first | rfl | (first | rfl | (congr 1;done) | (congr 1 <;> first | rfl | omega | (simp;done) | (simp;omega)))) (by trivial) ?_)))))
 exact Tf
theorem devsn (so:Option Addr) (sn sc:Nat):Spec Tryz.prog 10 [.pointer none,.slice so sn sc] [] (fun (_:Unit)=>.tuple #[.int .i64 0,.int .i64 1]) (fun _=>True) (fun _=>[]):=by
 refine kQ (n:=29) Tryz.func10 rfl rfl rfl ?_
 intro Γ w0
 simp only [argE,Ca,Na,Zd,Nat.reduceAdd]
 refine qL (qC (.q 0 (.q 1 (.done))) Kr ?_)
 refine qS rfl rfl rfl rfl (qS rfl rfl rfl rfl (qR (qQ (qL (qL (qC (.q 0 ((.l 1 [] (.q 2 (.done))))) Kr ?_))))))
 refine qK rfl rfl rfl rfl ?_
 have sp_1:=dtheren
 refine qM rfl rfl rfl rfl rfl rfl κ'25 (sp_1) Ts ?_
 rintro ⟨⟩ -
 try simp only [Ca,Na]
 refine qV (sY rfl rfl rfl rfl ?_)
 refine kB 11 rfl (v':=.bool true) rfl ?_
 refine qR (qW [0,1,11] (e':=[(0,_),(1,_),(11,_)]) rfl ?_)
 refine qQ (cK rfl ?_)
 refine qL (qC (.q 0 (.q 1 (.done))) Kr ?_)
 refine qS rfl rfl rfl rfl (qS rfl rfl rfl rfl (qR (qQ (qJ (qN (ret2 rfl rfl rfl (()) (by first | rfl | (first | rfl | (congr 1;done) | (congr 1 <;> first | rfl | omega | (simp;done) | (simp;omega)))) (by trivial) ?_))))))
 exact Tf
theorem dfln:Spec Tryz.prog 13 [.pointer none] [] (fun (_:Unit)=>.slice none 0 0) (fun _=>True) (fun _=>[]):=by
 refine kQ (n:=29) Tryz.func13 rfl rfl rfl ?_
 intro Γ w0
 simp only [argE,Ca,Na,Zd,Nat.reduceAdd]
 refine qL (qC (.q 0 (.done)) Kr ?_)
 refine qS rfl rfl rfl rfl (qR (qQ (qL (qC (.q 0 (.done)) Kr ?_))))
 refine qS rfl rfl rfl rfl (qR (qQ (qL (qL (qC (.q 0 ((.l 1 [] (.done)))) Kr ?_)))))
 refine qK rfl rfl rfl rfl ?_
 have sp_1:=dtheren
 refine qM rfl rfl rfl rfl rfl rfl κ'25 (sp_1) Ts ?_
 rintro ⟨⟩ -
 try simp only [Ca,Na]
 refine qV (qR (qQ (kZ rfl ?_)))
 refine qF (qQ (qL (qC (.q 0 (.q 1 (.done))) Kr ?_)))
 refine qK rfl rfl rfl rfl (qS rfl rfl rfl rfl (qR (qW [2] (e':=[(2,_)]) rfl ?_)))
 refine qQ (qJ (kD rfl rfl (()) (by first | rfl | (first | rfl | (congr 1;done) | (congr 1 <;> first | rfl | omega | (simp;done) | (simp;omega)))) (by trivial) ?_))
 exact Tf
theorem dven (z:Int):Spec Tryz.prog 15 [.pointer none,.int .i64 z] [] (fun (_:Unit)=>.slice none 0 0) (fun _=>True) (fun _=>[]):=by
 refine kQ (n:=18) Tryz.func15 rfl rfl rfl ?_
 intro Γ w0
 simp only [argE,Ca,Na,Zd,Nat.reduceAdd]
 refine qL (qC (.q 0 (.done)) Kr ?_)
 refine qS rfl rfl rfl rfl (qR (qQ (qL (qL (qC (.q 0 ((.l 1 [] (.q 2 (.done))))) Kr ?_)))))
 refine qK rfl rfl rfl rfl ?_
 have sp_1:=dtheren
 refine qM rfl rfl rfl rfl rfl rfl κ'25 (sp_1) Ts ?_
 rintro ⟨⟩ -
 try simp only [Ca,Na]
 refine qV (sY rfl rfl rfl rfl ?_)
 refine kB 7 rfl (v':=.bool true) rfl ?_
 refine qR (qQ (cK rfl ?_))
 refine qL (qC (.q 0 (.done)) Kr ?_)
 refine qS rfl rfl rfl rfl (qR (qW [4] (e':=[(4,_)]) rfl ?_))
 refine qQ (qJ (qN (kD rfl rfl (()) (by first | rfl | (first | rfl | (congr 1;done) | (congr 1 <;> first | rfl | omega | (simp;done) | (simp;omega)))) (by trivial) ?_)))
 exact Tf
theorem dcon:Spec Tryz.prog 56 [.pointer none] [] (fun (_:Unit)=>.int .i64 0) (fun _=>True) (fun _=>[]):=by
 refine kQ (n:=10) Tryz.func56 rfl rfl rfl ?_
 intro Γ w0
 simp only [argE,Ca,Na,Zd,Nat.reduceAdd]
 refine qL (qC (.q 0 (.done)) Kr ?_)
 refine qS rfl rfl rfl rfl (qR (qQ (qL (qL (qC (.q 0 ((.l 1 [] (.q 2 (.done))))) Kr ?_)))))
 refine qK rfl rfl rfl rfl ?_
 have sp_1:=dtheren
 refine qM rfl rfl rfl rfl rfl rfl κ'25 (sp_1) Ts ?_
 rintro ⟨⟩ -
 try simp only [Ca,Na]
 refine qV (sY rfl rfl rfl rfl ?_)
 refine kB 5 rfl (v':=.bool true) rfl ?_
 refine qR (qQ (cK rfl ?_))
 refine qL (qC (.q 0 (.done)) Kr ?_)
 refine qS rfl rfl rfl rfl (qR (qW [2] (e':=[(2,_)]) rfl ?_))
 refine qQ (qJ (qN (kD rfl rfl (()) (by first | rfl | (first | rfl | (congr 1;done) | (congr 1 <;> first | rfl | omega | (simp;done) | (simp;omega)))) (by trivial) ?_)))
 exact Tf
theorem dlen:Spec Tryz.prog 54 [.pointer none] [] (fun (_:Unit)=>.int .i64 0) (fun _=>True) (fun _=>[]):=by
 refine kQ (n:=14) Tryz.func54 rfl rfl rfl ?_
 intro Γ w0
 simp only [argE,Ca,Na,Zd,Nat.reduceAdd]
 refine qL (qC (.q 0 (.done)) Kr ?_)
 refine qS rfl rfl rfl rfl (qR (qQ (qL (qL (qC (.q 0 ((.l 1 [] (.q 2 (.done))))) Kr ?_)))))
 refine qK rfl rfl rfl rfl ?_
 have sp_1:=dtheren
 refine qM rfl rfl rfl rfl rfl rfl κ'25 (sp_1) Ts ?_
 rintro ⟨⟩ -
 try simp only [Ca,Na]
 refine qV (sY rfl rfl rfl rfl ?_)
 refine kB 5 rfl (v':=.bool true) rfl ?_
 refine qR (qQ (cK rfl ?_))
 refine qL (qC (.q 0 (.done)) Kr ?_)
 refine qS rfl rfl rfl rfl (qR (qW [2] (e':=[(2,_)]) rfl ?_))
 refine qQ (qJ (qN (kD rfl rfl (()) (by first | rfl | (first | rfl | (congr 1;done) | (congr 1 <;> first | rfl | omega | (simp;done) | (simp;omega)))) (by trivial) ?_)))
 exact Tf
theorem dfdn (z:Int):Spec Tryz.prog 46 [.pointer none,.int .i64 z] [] (fun (_:Unit)=>.tuple #[.int .i64 0,.bool false]) (fun _=>True) (fun _=>[]):=by
 refine kQ (n:=20) Tryz.func46 rfl rfl rfl ?_
 intro Γ w0
 simp only [argE,Ca,Na,Zd,Nat.reduceAdd]
 refine qL (qC (.q 0 (.q 1 (.done))) Kr ?_)
 refine qS rfl rfl rfl rfl (qS rfl rfl rfl rfl (qR (qQ (qL (qC (.q 0 (.q 1 ((.l 2 [] (.q 3 (.done)))))) Kr ?_)))))
 refine qK rfl rfl rfl rfl (qK rfl rfl rfl rfl ?_)
 have sp_1:=datn z
 refine qM rfl rfl rfl rfl rfl rfl κ'91 (sp_1) Ts ?_
 rintro ⟨⟩ -
 try simp only [Ca,Na]
 refine qV (qS rfl rfl rfl rfl (qR (qW [6] (e':=[(6,_)]) rfl ?_)))
 refine qQ (qL (qL (qC (.q 0 (.q 1 (.done))) Kr ?_)))
 refine qK rfl rfl rfl rfl (cG rfl rfl rfl rfl υ'91 ?_)
 refine kB 11 rfl (v':=.bool true) rfl ?_
 refine qR (qQ (cK rfl ?_))
 refine qL (qC (.q 0 (.q 1 (.done))) Kr ?_)
 refine qS rfl rfl rfl rfl (qS rfl rfl rfl rfl (qR (qQ (qJ (qN (ret2 rfl rfl rfl (()) (by first | rfl | (first | rfl | (congr 1;done) | (congr 1 <;> first | rfl | omega | (simp;done) | (simp;omega)))) (by trivial) ?_))))))
 exact Tf
theorem dren (z:Int):Spec Tryz.prog 48 [.pointer none,.int .i64 z] [] (fun (_:Unit)=>.tuple #[.slice none 0 0,.bool false]) (fun _=>True) (fun _=>[]):=by
 refine kQ (n:=17) Tryz.func48 rfl rfl rfl ?_
 intro Γ w0
 simp only [argE,Ca,Na,Zd,Nat.reduceAdd]
 refine qL (qC (.q 0 (.q 1 (.done))) Kr ?_)
 refine qS rfl rfl rfl rfl (qS rfl rfl rfl rfl (qR (qQ (qL (qC (.q 0 (.q 1 ((.l 2 [] (.q 3 (.done)))))) Kr ?_)))))
 refine qK rfl rfl rfl rfl (qK rfl rfl rfl rfl ?_)
 have sp_1:=datn z
 refine qM rfl rfl rfl rfl rfl rfl κ'91 (sp_1) Ts ?_
 rintro ⟨⟩ -
 try simp only [Ca,Na]
 refine qV (qS rfl rfl rfl rfl (qR (qW [6] (e':=[(6,_)]) rfl ?_)))
 refine qQ (qL (qL (qC (.q 0 (.q 1 (.done))) Kr ?_)))
 refine qK rfl rfl rfl rfl (cG rfl rfl rfl rfl υ'91 ?_)
 refine kB 11 rfl (v':=.bool true) rfl ?_
 refine qR (qQ (cK rfl ?_))
 refine qL (qC (.q 0 (.q 1 (.done))) Kr ?_)
 refine qS rfl rfl rfl rfl (qS rfl rfl rfl rfl (qR (qQ (qJ (qN (ret2 rfl rfl rfl (()) (by first | rfl | (first | rfl | (congr 1;done) | (congr 1 <;> first | rfl | omega | (simp;done) | (simp;omega)))) (by trivial) ?_))))))
 exact Tf
theorem dwrn (z:Int):Spec Tryz.prog 51 [.pointer none,.int .i64 z] [] (fun (_:Unit)=>.tuple #[.slice none 0 0,.bool false]) (fun _=>True) (fun _=>[]):=by
 refine kQ (n:=17) Tryz.func51 rfl rfl rfl ?_
 intro Γ w0
 simp only [argE,Ca,Na,Zd,Nat.reduceAdd]
 refine qL (qC (.q 0 (.q 1 (.done))) Kr ?_)
 refine qS rfl rfl rfl rfl (qS rfl rfl rfl rfl (qR (qQ (qL (qC (.q 0 (.q 1 ((.l 2 [] (.q 3 (.done)))))) Kr ?_)))))
 refine qK rfl rfl rfl rfl (qK rfl rfl rfl rfl ?_)
 have sp_1:=datn z
 refine qM rfl rfl rfl rfl rfl rfl κ'91 (sp_1) Ts ?_
 rintro ⟨⟩ -
 try simp only [Ca,Na]
 refine qV (qS rfl rfl rfl rfl (qR (qW [6] (e':=[(6,_)]) rfl ?_)))
 refine qQ (qL (qL (qC (.q 0 (.q 1 (.done))) Kr ?_)))
 refine qK rfl rfl rfl rfl (cG rfl rfl rfl rfl υ'91 ?_)
 refine kB 11 rfl (v':=.bool true) rfl ?_
 refine qR (qQ (cK rfl ?_))
 refine qL (qC (.q 0 (.q 1 (.done))) Kr ?_)
 refine qS rfl rfl rfl rfl (qS rfl rfl rfl rfl (qR (qQ (qJ (qN (ret2 rfl rfl rfl (()) (by first | rfl | (first | rfl | (congr 1;done) | (congr 1 <;> first | rfl | omega | (simp;done) | (simp;omega)))) (by trivial) ?_))))))
 exact Tf
theorem dcyn:Spec Tryz.prog 20 [.pointer none] [] (fun (_:Unit)=>.pointer none) (fun _=>True) (fun _=>[]):=by
 refine kQ (n:=49) Tryz.func20 rfl rfl rfl ?_
 intro Γ w0
 simp only [argE,Ca,Na,Zd,Nat.reduceAdd]
 refine qL (qC (.q 0 (.done)) Kr ?_)
 refine qS rfl rfl rfl rfl (qR (qQ (qL (qL (qC (.q 0 ((.l 1 [] (.q 2 (.done))))) Kr ?_)))))
 refine qK rfl rfl rfl rfl ?_
 have sp_1:=dtheren
 refine qM rfl rfl rfl rfl rfl rfl κ'25 (sp_1) Ts ?_
 rintro ⟨⟩ -
 try simp only [Ca,Na]
 refine qV (sY rfl rfl rfl rfl ?_)
 refine kB 8 rfl (v':=.bool true) rfl ?_
 refine qR (qQ (cK rfl ?_))
 refine qL (qC (.q 0 (.done)) Kr ?_)
 refine qS rfl rfl rfl rfl (qR (qW [2] (e':=[(2,_)]) rfl ?_))
 refine qQ (qJ (qN (kD rfl rfl (()) (by first | rfl | (first | rfl | (congr 1;done) | (congr 1 <;> first | rfl | omega | (simp;done) | (simp;omega)))) (by trivial) ?_)))
 exact Tf
theorem dtherez (b:Nat):Spec Tryz.prog 25 [.pointer (some ⟨b,0,none⟩)] [zc b] (fun (_:Unit)=>.bool false) (fun _=>True) (fun _=>[zc b]):=by
 refine kQ (n:=12) Tryz.func25 rfl rfl rfl ?_
 intro Γ w0
 simp only [argE,Ca,Na,Zd,Nat.reduceAdd]
 refine qL (qC (.q 0 (.done)) Kr ?_)
 refine qS rfl rfl rfl rfl (qR (qQ (qL (qC (.q 0 (.q 1 (.q 2 (.q 3 (.q 4 (.q 5 (.q 6 (.q 7 (.q 8 (.q 9 (.done))))))))))) Kr ?_))))
 refine qK rfl rfl rfl rfl (q_ne_nil rfl rfl rfl rfl υ'29 ?_)
 refine kB 4 rfl (v':=.bool true) rfl ?_
 refine qK rfl rfl rfl rfl (qK rfl rfl rfl rfl (qX rfl rfl rfl rfl (qG (k:=0) rfl rfl rfl rfl υ'43 rfl ζ'40 rfl ?_)))
 refine qP (j:=0) rfl rfl rfl rfl α'40 Tk Az (by rfl) ?_
 refine q_ne_nil rfl rfl rfl rfl Tryz.underlying40 ?_
 refine kB 10 rfl (v':=.bool false) rfl ?_
 refine kW rfl rfl rfl rfl rfl (qS rfl rfl rfl rfl (qR (qW [2] (e':=[(2,_)]) rfl ?_)))
 refine qQ (qJ (kD rfl rfl (()) (by first | rfl | (first | rfl | (congr 1;done) | (congr 1 <;> first | rfl | omega | (simp;done) | (simp;omega)))) (by trivial) ?_))
 exact Tf
theorem datz (b:Nat) (z:Int):Spec Tryz.prog 91 [.pointer (some ⟨b,0,none⟩),.int .i64 z] [zc b] (fun (_:Unit)=>.pointer none) (fun _=>True) (fun _=>[zc b]):=by
 refine kQ (n:=27) Tryz.func91 rfl rfl rfl ?_
 intro Γ w0
 simp only [argE,Ca,Na,Zd,Nat.reduceAdd]
 refine qL (qC (.q 0 (.done)) Kr ?_)
 refine qS rfl rfl rfl rfl (qR (qQ (qL (qL (qC (.q 0 ((.l 1 [] (.q 2 (.q 3 (.q 4 (.q 5 (.q 6 (.q 7 (.q 8 (.q 9 (.q 10 (.q 11 (.q 12 (.q 13 (.q 14 (.q 15 (.done)))))))))))))))))) Kr ?_)))))
 refine qK rfl rfl rfl rfl ?_
 have sp_1:=dtherez b
 refine qM rfl rfl rfl rfl rfl rfl κ'25 (sp_1) Ts ?_
 rintro ⟨⟩ -
 try simp only [Ca,Na]
 refine qV (sY rfl rfl rfl rfl ?_)
 refine kB 7 rfl (v':=.bool true) rfl ?_
 refine qK rfl rfl rfl rfl (qZ rfl rfl rfl rfl (qZ rfl rfl rfl rfl (kW rfl rfl rfl rfl rfl (qK rfl rfl rfl rfl (qZ rfl rfl rfl rfl (qZ rfl rfl rfl rfl (qZ rfl rfl rfl rfl (qZ rfl rfl rfl rfl ?_))))))))
 refine qZ rfl rfl rfl rfl (qZ rfl rfl rfl rfl (qZ rfl rfl rfl rfl (kW rfl rfl rfl rfl rfl (qR (qW [0,1,20] (e':=[(0,_),(1,_),(20,_)]) rfl ?_)))))
 refine qQ (cK rfl ?_)
 refine qL (qC (.q 0 (.done)) Kr ?_)
 refine qS rfl rfl rfl rfl (qR (qQ (qJ (qN (kD rfl rfl (()) (by first | rfl | (first | rfl | (congr 1;done) | (congr 1 <;> first | rfl | omega | (simp;done) | (simp;omega)))) (by trivial) ?_)))))
 exact Tf
theorem devz (b:Nat) (k t o:Int):Spec Tryz.prog 16 [.pointer (some ⟨b,0,none⟩),.agg #[.int .i64 k,.int .i64 t,.int .i64 o]] [zc b] (fun (_:Unit)=>.int .i64 1) (fun _=>True) (fun _=>[zc b]):=by
 refine kQ (n:=128) Tryz.func16 rfl rfl rfl ?_
 intro Γ w0
 simp only [argE,Ca,Na,Zd,Nat.reduceAdd]
 refine qL (qC ((.l 0 [] (.q 1 (.done)))) Kr ?_)
 refine sP rfl rfl rfl rfl (us:=[_,_,_]) rfl ?_
 intro b3
 refine qV (qS rfl rfl rfl rfl (qR (qQ (qL (qL (qC (.q 0 ((.l 1 [] (.q 2 (.done))))) Kr ?_))))))
 refine qK rfl rfl rfl rfl ?_
 have sp_1:=dtherez b
 refine qM rfl rfl rfl rfl rfl rfl κ'25 (sp_1) Ts ?_
 rintro ⟨⟩ -
 try simp only [Ca,Na]
 refine qV (sY rfl rfl rfl rfl ?_)
 refine kB 11 rfl (v':=.bool true) rfl ?_
 refine qR (qW [0,3,11] (e':=[(0,_),(3,_),(11,_)]) rfl ?_)
 refine qQ (cK rfl ?_)
 refine qL (qC (.q 0 (.done)) Kr ?_)
 refine qS rfl rfl rfl rfl (qR (qQ (qJ (qN (kD rfl rfl (()) (by first | rfl | (first | rfl | (congr 1;done) | (congr 1 <;> first | rfl | omega | (simp;done) | (simp;omega)))) (by trivial) ?_)))))
 exact Tf
theorem devsz (b:Nat) (so:Option Addr) (sn sc:Nat):Spec Tryz.prog 10 [.pointer (some ⟨b,0,none⟩),.slice so sn sc] [zc b] (fun (_:Unit)=>.tuple #[.int .i64 0,.int .i64 1]) (fun _=>True) (fun _=>[zc b]):=by
 refine kQ (n:=29) Tryz.func10 rfl rfl rfl ?_
 intro Γ w0
 simp only [argE,Ca,Na,Zd,Nat.reduceAdd]
 refine qL (qC (.q 0 (.q 1 (.done))) Kr ?_)
 refine qS rfl rfl rfl rfl (qS rfl rfl rfl rfl (qR (qQ (qL (qL (qC (.q 0 ((.l 1 [] (.q 2 (.done))))) Kr ?_))))))
 refine qK rfl rfl rfl rfl ?_
 have sp_1:=dtherez b
 refine qM rfl rfl rfl rfl rfl rfl κ'25 (sp_1) Ts ?_
 rintro ⟨⟩ -
 try simp only [Ca,Na]
 refine qV (sY rfl rfl rfl rfl ?_)
 refine kB 11 rfl (v':=.bool true) rfl ?_
 refine qR (qW [0,1,11] (e':=[(0,_),(1,_),(11,_)]) rfl ?_)
 refine qQ (cK rfl ?_)
 refine qL (qC (.q 0 (.q 1 (.done))) Kr ?_)
 refine qS rfl rfl rfl rfl (qS rfl rfl rfl rfl (qR (qQ (qJ (qN (ret2 rfl rfl rfl (()) (by first | rfl | (first | rfl | (congr 1;done) | (congr 1 <;> first | rfl | omega | (simp;done) | (simp;omega)))) (by trivial) ?_))))))
 exact Tf
theorem dflz (b:Nat):Spec Tryz.prog 13 [.pointer (some ⟨b,0,none⟩)] [zc b] (fun (_:Unit)=>.slice none 0 0) (fun _=>True) (fun _=>[zc b]):=by
 refine kQ (n:=29) Tryz.func13 rfl rfl rfl ?_
 intro Γ w0
 simp only [argE,Ca,Na,Zd,Nat.reduceAdd]
 refine qL (qC (.q 0 (.done)) Kr ?_)
 refine qS rfl rfl rfl rfl (qR (qQ (qL (qC (.q 0 (.done)) Kr ?_))))
 refine qS rfl rfl rfl rfl (qR (qQ (qL (qL (qC (.q 0 ((.l 1 [] (.done)))) Kr ?_)))))
 refine qK rfl rfl rfl rfl ?_
 have sp_1:=dtherez b
 refine qM rfl rfl rfl rfl rfl rfl κ'25 (sp_1) Ts ?_
 rintro ⟨⟩ -
 try simp only [Ca,Na]
 refine qV (qR (qQ (kZ rfl ?_)))
 refine qF (qQ (qL (qC (.q 0 (.q 1 (.done))) Kr ?_)))
 refine qK rfl rfl rfl rfl (qS rfl rfl rfl rfl (qR (qW [2] (e':=[(2,_)]) rfl ?_)))
 refine qQ (qJ (kD rfl rfl (()) (by first | rfl | (first | rfl | (congr 1;done) | (congr 1 <;> first | rfl | omega | (simp;done) | (simp;omega)))) (by trivial) ?_))
 exact Tf
theorem dvez (b:Nat) (z:Int):Spec Tryz.prog 15 [.pointer (some ⟨b,0,none⟩),.int .i64 z] [zc b] (fun (_:Unit)=>.slice none 0 0) (fun _=>True) (fun _=>[zc b]):=by
 refine kQ (n:=18) Tryz.func15 rfl rfl rfl ?_
 intro Γ w0
 simp only [argE,Ca,Na,Zd,Nat.reduceAdd]
 refine qL (qC (.q 0 (.done)) Kr ?_)
 refine qS rfl rfl rfl rfl (qR (qQ (qL (qL (qC (.q 0 ((.l 1 [] (.q 2 (.done))))) Kr ?_)))))
 refine qK rfl rfl rfl rfl ?_
 have sp_1:=dtherez b
 refine qM rfl rfl rfl rfl rfl rfl κ'25 (sp_1) Ts ?_
 rintro ⟨⟩ -
 try simp only [Ca,Na]
 refine qV (sY rfl rfl rfl rfl ?_)
 refine kB 7 rfl (v':=.bool true) rfl ?_
 refine qR (qQ (cK rfl ?_))
 refine qL (qC (.q 0 (.done)) Kr ?_)
 refine qS rfl rfl rfl rfl (qR (qW [4] (e':=[(4,_)]) rfl ?_))
 refine qQ (qJ (qN (kD rfl rfl (()) (by first | rfl | (first | rfl | (congr 1;done) | (congr 1 <;> first | rfl | omega | (simp;done) | (simp;omega)))) (by trivial) ?_)))
 exact Tf
theorem dcoz (b:Nat):Spec Tryz.prog 56 [.pointer (some ⟨b,0,none⟩)] [zc b] (fun (_:Unit)=>.int .i64 0) (fun _=>True) (fun _=>[zc b]):=by
 refine kQ (n:=10) Tryz.func56 rfl rfl rfl ?_
 intro Γ w0
 simp only [argE,Ca,Na,Zd,Nat.reduceAdd]
 refine qL (qC (.q 0 (.done)) Kr ?_)
 refine qS rfl rfl rfl rfl (qR (qQ (qL (qL (qC (.q 0 ((.l 1 [] (.q 2 (.done))))) Kr ?_)))))
 refine qK rfl rfl rfl rfl ?_
 have sp_1:=dtherez b
 refine qM rfl rfl rfl rfl rfl rfl κ'25 (sp_1) Ts ?_
 rintro ⟨⟩ -
 try simp only [Ca,Na]
 refine qV (sY rfl rfl rfl rfl ?_)
 refine kB 5 rfl (v':=.bool true) rfl ?_
 refine qR (qQ (cK rfl ?_))
 refine qL (qC (.q 0 (.done)) Kr ?_)
 refine qS rfl rfl rfl rfl (qR (qW [2] (e':=[(2,_)]) rfl ?_))
 refine qQ (qJ (qN (kD rfl rfl (()) (by first | rfl | (first | rfl | (congr 1;done) | (congr 1 <;> first | rfl | omega | (simp;done) | (simp;omega)))) (by trivial) ?_)))
 exact Tf
theorem dlez (b:Nat):Spec Tryz.prog 54 [.pointer (some ⟨b,0,none⟩)] [zc b] (fun (_:Unit)=>.int .i64 0) (fun _=>True) (fun _=>[zc b]):=by
 refine kQ (n:=14) Tryz.func54 rfl rfl rfl ?_
 intro Γ w0
 simp only [argE,Ca,Na,Zd,Nat.reduceAdd]
 refine qL (qC (.q 0 (.done)) Kr ?_)
 refine qS rfl rfl rfl rfl (qR (qQ (qL (qL (qC (.q 0 ((.l 1 [] (.q 2 (.done))))) Kr ?_)))))
 refine qK rfl rfl rfl rfl ?_
 have sp_1:=dtherez b
 refine qM rfl rfl rfl rfl rfl rfl κ'25 (sp_1) Ts ?_
 rintro ⟨⟩ -
 try simp only [Ca,Na]
 refine qV (sY rfl rfl rfl rfl ?_)
 refine kB 5 rfl (v':=.bool true) rfl ?_
 refine qR (qQ (cK rfl ?_))
 refine qL (qC (.q 0 (.done)) Kr ?_)
 refine qS rfl rfl rfl rfl (qR (qW [2] (e':=[(2,_)]) rfl ?_))
 refine qQ (qJ (qN (kD rfl rfl (()) (by first | rfl | (first | rfl | (congr 1;done) | (congr 1 <;> first | rfl | omega | (simp;done) | (simp;omega)))) (by trivial) ?_)))
 exact Tf
theorem dfdz (b:Nat) (z:Int):Spec Tryz.prog 46 [.pointer (some ⟨b,0,none⟩),.int .i64 z] [zc b] (fun (_:Unit)=>.tuple #[.int .i64 0,.bool false]) (fun _=>True) (fun _=>[zc b]):=by
 refine kQ (n:=20) Tryz.func46 rfl rfl rfl ?_
 intro Γ w0
 simp only [argE,Ca,Na,Zd,Nat.reduceAdd]
 refine qL (qC (.q 0 (.q 1 (.done))) Kr ?_)
 refine qS rfl rfl rfl rfl (qS rfl rfl rfl rfl (qR (qQ (qL (qC (.q 0 (.q 1 ((.l 2 [] (.q 3 (.done)))))) Kr ?_)))))
 refine qK rfl rfl rfl rfl (qK rfl rfl rfl rfl ?_)
 have sp_1:=datz b z
 refine qM rfl rfl rfl rfl rfl rfl κ'91 (sp_1) Ts ?_
 rintro ⟨⟩ -
 try simp only [Ca,Na]
 refine qV (qS rfl rfl rfl rfl (qR (qW [6] (e':=[(6,_)]) rfl ?_)))
 refine qQ (qL (qL (qC (.q 0 (.q 1 (.done))) Kr ?_)))
 refine qK rfl rfl rfl rfl (cG rfl rfl rfl rfl υ'91 ?_)
 refine kB 11 rfl (v':=.bool true) rfl ?_
 refine qR (qQ (cK rfl ?_))
 refine qL (qC (.q 0 (.q 1 (.done))) Kr ?_)
 refine qS rfl rfl rfl rfl (qS rfl rfl rfl rfl (qR (qQ (qJ (qN (ret2 rfl rfl rfl (()) (by first | rfl | (first | rfl | (congr 1;done) | (congr 1 <;> first | rfl | omega | (simp;done) | (simp;omega)))) (by trivial) ?_))))))
 exact Tf
theorem drez (b:Nat) (z:Int):Spec Tryz.prog 48 [.pointer (some ⟨b,0,none⟩),.int .i64 z] [zc b] (fun (_:Unit)=>.tuple #[.slice none 0 0,.bool false]) (fun _=>True) (fun _=>[zc b]):=by
 refine kQ (n:=17) Tryz.func48 rfl rfl rfl ?_
 intro Γ w0
 simp only [argE,Ca,Na,Zd,Nat.reduceAdd]
 refine qL (qC (.q 0 (.q 1 (.done))) Kr ?_)
 refine qS rfl rfl rfl rfl (qS rfl rfl rfl rfl (qR (qQ (qL (qC (.q 0 (.q 1 ((.l 2 [] (.q 3 (.done)))))) Kr ?_)))))
 refine qK rfl rfl rfl rfl (qK rfl rfl rfl rfl ?_)
 have sp_1:=datz b z
 refine qM rfl rfl rfl rfl rfl rfl κ'91 (sp_1) Ts ?_
 rintro ⟨⟩ -
 try simp only [Ca,Na]
 refine qV (qS rfl rfl rfl rfl (qR (qW [6] (e':=[(6,_)]) rfl ?_)))
 refine qQ (qL (qL (qC (.q 0 (.q 1 (.done))) Kr ?_)))
 refine qK rfl rfl rfl rfl (cG rfl rfl rfl rfl υ'91 ?_)
 refine kB 11 rfl (v':=.bool true) rfl ?_
 refine qR (qQ (cK rfl ?_))
 refine qL (qC (.q 0 (.q 1 (.done))) Kr ?_)
 refine qS rfl rfl rfl rfl (qS rfl rfl rfl rfl (qR (qQ (qJ (qN (ret2 rfl rfl rfl (()) (by first | rfl | (first | rfl | (congr 1;done) | (congr 1 <;> first | rfl | omega | (simp;done) | (simp;omega)))) (by trivial) ?_))))))
 exact Tf
theorem dwrz (b:Nat) (z:Int):Spec Tryz.prog 51 [.pointer (some ⟨b,0,none⟩),.int .i64 z] [zc b] (fun (_:Unit)=>.tuple #[.slice none 0 0,.bool false]) (fun _=>True) (fun _=>[zc b]):=by
 refine kQ (n:=17) Tryz.func51 rfl rfl rfl ?_
 intro Γ w0
 simp only [argE,Ca,Na,Zd,Nat.reduceAdd]
 refine qL (qC (.q 0 (.q 1 (.done))) Kr ?_)
 refine qS rfl rfl rfl rfl (qS rfl rfl rfl rfl (qR (qQ (qL (qC (.q 0 (.q 1 ((.l 2 [] (.q 3 (.done)))))) Kr ?_)))))
 refine qK rfl rfl rfl rfl (qK rfl rfl rfl rfl ?_)
 have sp_1:=datz b z
 refine qM rfl rfl rfl rfl rfl rfl κ'91 (sp_1) Ts ?_
 rintro ⟨⟩ -
 try simp only [Ca,Na]
 refine qV (qS rfl rfl rfl rfl (qR (qW [6] (e':=[(6,_)]) rfl ?_)))
 refine qQ (qL (qL (qC (.q 0 (.q 1 (.done))) Kr ?_)))
 refine qK rfl rfl rfl rfl (cG rfl rfl rfl rfl υ'91 ?_)
 refine kB 11 rfl (v':=.bool true) rfl ?_
 refine qR (qQ (cK rfl ?_))
 refine qL (qC (.q 0 (.q 1 (.done))) Kr ?_)
 refine qS rfl rfl rfl rfl (qS rfl rfl rfl rfl (qR (qQ (qJ (qN (ret2 rfl rfl rfl (()) (by first | rfl | (first | rfl | (congr 1;done) | (congr 1 <;> first | rfl | omega | (simp;done) | (simp;omega)))) (by trivial) ?_))))))
 exact Tf
theorem dcyz (b:Nat):Spec Tryz.prog 20 [.pointer (some ⟨b,0,none⟩)] [zc b] (fun (_:Unit)=>.pointer none) (fun _=>True) (fun _=>[zc b]):=by
 refine kQ (n:=49) Tryz.func20 rfl rfl rfl ?_
 intro Γ w0
 simp only [argE,Ca,Na,Zd,Nat.reduceAdd]
 refine qL (qC (.q 0 (.done)) Kr ?_)
 refine qS rfl rfl rfl rfl (qR (qQ (qL (qL (qC (.q 0 ((.l 1 [] (.q 2 (.done))))) Kr ?_)))))
 refine qK rfl rfl rfl rfl ?_
 have sp_1:=dtherez b
 refine qM rfl rfl rfl rfl rfl rfl κ'25 (sp_1) Ts ?_
 rintro ⟨⟩ -
 try simp only [Ca,Na]
 refine qV (sY rfl rfl rfl rfl ?_)
 refine kB 8 rfl (v':=.bool true) rfl ?_
 refine qR (qQ (cK rfl ?_))
 refine qL (qC (.q 0 (.done)) Kr ?_)
 refine qS rfl rfl rfl rfl (qR (qW [2] (e':=[(2,_)]) rfl ?_))
 refine qQ (qJ (qN (kD rfl rfl (()) (by first | rfl | (first | rfl | (congr 1;done) | (congr 1 <;> first | rfl | omega | (simp;done) | (simp;omega)))) (by trivial) ?_)))
 exact Tf
theorem rtheren (z:Int):Spec Tryz.prog 92 [.pointer none,.int .i64 z] [] (fun (_:Unit)=>.bool false) (fun _=>True) (fun _=>[]):=by
 refine kQ (n:=20) Tryz.func92 rfl rfl rfl ?_
 intro Γ w0
 simp only [argE,Ca,Na,Zd,Nat.reduceAdd]
 refine qL (qC (.q 0 (.done)) Kr ?_)
 refine qS rfl rfl rfl rfl (qR (qQ (qL (qC (.q 0 (.q 1 (.q 2 (.q 3 (.q 4 (.q 5 (.q 6 (.q 7 (.q 8 (.q 9 (.q 10 (.q 11 (.q 12 (.q 13 (.q 14 (.q 15 (.done))))))))))))))))) Kr ?_))))
 refine qK rfl rfl rfl rfl (q_ne_nil rfl rfl rfl rfl υ'30 ?_)
 refine kB 6 rfl (v':=.bool false) rfl ?_
 refine qK rfl rfl rfl rfl (qZ rfl rfl rfl rfl (qZ rfl rfl rfl rfl (kN rfl rfl rfl rfl rfl (qK rfl rfl rfl rfl (qZ rfl rfl rfl rfl (qZ rfl rfl rfl rfl (qZ rfl rfl rfl rfl (qZ rfl rfl rfl rfl ?_))))))))
 refine qZ rfl rfl rfl rfl (qZ rfl rfl rfl rfl (qZ rfl rfl rfl rfl (kN rfl rfl rfl rfl rfl (qS rfl rfl rfl rfl (qR (qW [4] (e':=[(4,_)]) rfl ?_))))))
 refine qQ (qJ (kD rfl rfl (()) (by first | rfl | (first | rfl | (congr 1;done) | (congr 1 <;> first | rfl | omega | (simp;done) | (simp;omega)))) (by trivial) ?_))
 exact Tf
theorem revn (k t o:Int):Spec Tryz.prog 18 [.pointer none,.agg #[.int .i64 k,.int .i64 t,.int .i64 o]] [] (fun (_:Unit)=>.int .i64 1) (fun _=>True) (fun _=>[]):=by
 refine kQ (n:=133) Tryz.func18 rfl rfl rfl ?_
 intro Γ w0
 simp only [argE,Ca,Na,Zd,Nat.reduceAdd]
 refine qL (qC ((.l 0 [] (.q 1 (.done)))) Kr ?_)
 refine sP rfl rfl rfl rfl (us:=[_,_,_]) rfl ?_
 intro b3
 refine qV (qS rfl rfl rfl rfl (qR (qQ (qL (qL (qC (.q 0 (.q 1 (.done))) Kr ?_))))))
 refine qK rfl rfl rfl rfl (cG rfl rfl rfl rfl υ'30 ?_)
 refine kB 9 rfl (v':=.bool true) rfl ?_
 refine qR (qQ (cK rfl ?_))
 refine qL (qC (.q 0 (.done)) Kr ?_)
 refine qS rfl rfl rfl rfl (qR (qW [4] (e':=[(4,_)]) rfl ?_))
 refine qQ (qJ (qN (kD rfl rfl (()) (by first | rfl | (first | rfl | (congr 1;done) | (congr 1 <;> first | rfl | omega | (simp;done) | (simp;omega)))) (by trivial) ?_)))
 exact Tf
theorem revsn (so:Option Addr) (sn sc:Nat):Spec Tryz.prog 19 [.pointer none,.slice so sn sc] [] (fun (_:Unit)=>.tuple #[.int .i64 0,.int .i64 1]) (fun _=>True) (fun _=>[]):=by
 refine kQ (n:=28) Tryz.func19 rfl rfl rfl ?_
 intro Γ w0
 simp only [argE,Ca,Na,Zd,Nat.reduceAdd]
 refine qL (qC (.q 0 (.q 1 (.done))) Kr ?_)
 refine qS rfl rfl rfl rfl (qS rfl rfl rfl rfl (qR (qQ (qL (qL (qC (.q 0 (.q 1 (.done))) Kr ?_))))))
 refine qK rfl rfl rfl rfl (cG rfl rfl rfl rfl υ'30 ?_)
 refine kB 9 rfl (v':=.bool true) rfl ?_
 refine qR (qQ (cK rfl ?_))
 refine qL (qC (.q 0 (.q 1 (.done))) Kr ?_)
 refine qS rfl rfl rfl rfl (qS rfl rfl rfl rfl (qR (qW [4,5] (e':=[(4,_),(5,_)]) rfl ?_)))
 refine qQ (qJ (qN (ret2 rfl rfl rfl (()) (by first | rfl | (first | rfl | (congr 1;done) | (congr 1 <;> first | rfl | omega | (simp;done) | (simp;omega)))) (by trivial) ?_)))
 exact Tf
theorem rfln:Spec Tryz.prog 45 [.pointer none] [] (fun (_:Unit)=>.slice none 0 0) (fun _=>True) (fun _=>[]):=by
 refine kQ (n:=40) Tryz.func45 rfl rfl rfl ?_
 intro Γ w0
 simp only [argE,Ca,Na,Zd,Nat.reduceAdd]
 refine qL (qC (.q 0 (.done)) Kr ?_)
 refine qS rfl rfl rfl rfl (qR (qQ (qL (qC (.q 0 (.done)) Kr ?_))))
 refine qS rfl rfl rfl rfl (qR (qQ (qL (qL (qC (.q 0 (.q 1 (.done))) Kr ?_)))))
 refine qK rfl rfl rfl rfl (cG rfl rfl rfl rfl υ'30 ?_)
 refine kB 6 rfl (v':=.bool true) rfl ?_
 refine qR (qQ (cK rfl ?_))
 refine qL (qC (.q 0 (.q 1 (.done))) Kr ?_)
 refine qK rfl rfl rfl rfl (qS rfl rfl rfl rfl (qR (qW [2] (e':=[(2,_)]) rfl ?_)))
 refine qQ (qJ (qN (kD rfl rfl (()) (by first | rfl | (first | rfl | (congr 1;done) | (congr 1 <;> first | rfl | omega | (simp;done) | (simp;omega)))) (by trivial) ?_)))
 exact Tf
theorem rven (z:Int):Spec Tryz.prog 53 [.pointer none,.int .i64 z] [] (fun (_:Unit)=>.slice none 0 0) (fun _=>True) (fun _=>[]):=by
 refine kQ (n:=13) Tryz.func53 rfl rfl rfl ?_
 intro Γ w0
 simp only [argE,Ca,Na,Zd,Nat.reduceAdd]
 refine qL (qC (.q 0 (.done)) Kr ?_)
 refine qS rfl rfl rfl rfl (qR (qQ (qL (qL (qC (.q 0 (.q 1 (.done))) Kr ?_)))))
 refine qK rfl rfl rfl rfl (cG rfl rfl rfl rfl υ'30 ?_)
 refine kB 6 rfl (v':=.bool true) rfl ?_
 refine qR (qQ (cK rfl ?_))
 refine qL (qC (.q 0 (.done)) Kr ?_)
 refine qS rfl rfl rfl rfl (qR (qW [4] (e':=[(4,_)]) rfl ?_))
 refine qQ (qJ (qN (kD rfl rfl (()) (by first | rfl | (first | rfl | (congr 1;done) | (congr 1 <;> first | rfl | omega | (simp;done) | (simp;omega)))) (by trivial) ?_)))
 exact Tf
theorem rcon:Spec Tryz.prog 57 [.pointer none] [] (fun (_:Unit)=>.int .i64 0) (fun _=>True) (fun _=>[]):=by
 refine kQ (n:=9) Tryz.func57 rfl rfl rfl ?_
 intro Γ w0
 simp only [argE,Ca,Na,Zd,Nat.reduceAdd]
 refine qL (qC (.q 0 (.done)) Kr ?_)
 refine qS rfl rfl rfl rfl (qR (qQ (qL (qL (qC (.q 0 (.q 1 (.done))) Kr ?_)))))
 refine qK rfl rfl rfl rfl (cG rfl rfl rfl rfl υ'30 ?_)
 refine kB 4 rfl (v':=.bool true) rfl ?_
 refine qR (qQ (cK rfl ?_))
 refine qL (qC (.q 0 (.done)) Kr ?_)
 refine qS rfl rfl rfl rfl (qR (qQ (qJ (qN (kD rfl rfl (()) (by first | rfl | (first | rfl | (congr 1;done) | (congr 1 <;> first | rfl | omega | (simp;done) | (simp;omega)))) (by trivial) ?_)))))
 exact Tf
theorem rlen:Spec Tryz.prog 55 [.pointer none] [] (fun (_:Unit)=>.int .i64 0) (fun _=>True) (fun _=>[]):=by
 refine kQ (n:=13) Tryz.func55 rfl rfl rfl ?_
 intro Γ w0
 simp only [argE,Ca,Na,Zd,Nat.reduceAdd]
 refine qL (qC (.q 0 (.done)) Kr ?_)
 refine qS rfl rfl rfl rfl (qR (qQ (qL (qL (qC (.q 0 (.q 1 (.done))) Kr ?_)))))
 refine qK rfl rfl rfl rfl (cG rfl rfl rfl rfl υ'30 ?_)
 refine kB 4 rfl (v':=.bool true) rfl ?_
 refine qR (qQ (cK rfl ?_))
 refine qL (qC (.q 0 (.done)) Kr ?_)
 refine qS rfl rfl rfl rfl (qR (qQ (qJ (qN (kD rfl rfl (()) (by first | rfl | (first | rfl | (congr 1;done) | (congr 1 <;> first | rfl | omega | (simp;done) | (simp;omega)))) (by trivial) ?_)))))
 exact Tf
theorem rfdn (z:Int):Spec Tryz.prog 47 [.pointer none,.int .i64 z] [] (fun (_:Unit)=>.tuple #[.int .i64 0,.bool false]) (fun _=>True) (fun _=>[]):=by
 refine kQ (n:=29) Tryz.func47 rfl rfl rfl ?_
 intro Γ w0
 simp only [argE,Ca,Na,Zd,Nat.reduceAdd]
 refine qL (qC (.q 0 (.q 1 (.done))) Kr ?_)
 refine qS rfl rfl rfl rfl (qS rfl rfl rfl rfl (qR (qQ (qL (qL (qC (.q 0 (.q 1 ((.l 2 [] (.q 3 (.q 4 (.q 5 (.q 6 (.q 7 (.q 8 (.q 9 (.q 10 (.q 11 (.q 12 (.q 13 (.q 14 (.done))))))))))))))))) Kr ?_))))))
 refine qK rfl rfl rfl rfl (qK rfl rfl rfl rfl ?_)
 have sp_1:=rtheren z
 refine qM rfl rfl rfl rfl rfl rfl κ'92 (sp_1) Ts ?_
 rintro ⟨⟩ -
 try simp only [Ca,Na]
 refine qV (sY rfl rfl rfl rfl ?_)
 refine kB 9 rfl (v':=.bool true) rfl ?_
 refine qK rfl rfl rfl rfl (qZ rfl rfl rfl rfl (qZ rfl rfl rfl rfl (qZ rfl rfl rfl rfl (qZ rfl rfl rfl rfl (qZ rfl rfl rfl rfl (qZ rfl rfl rfl rfl (qZ rfl rfl rfl rfl (qZ rfl rfl rfl rfl ?_))))))))
 refine qZ rfl rfl rfl rfl (kW rfl rfl rfl rfl rfl (qR (qW [0,1,20] (e':=[(0,_),(1,_),(20,_)]) rfl ?_)))
 refine qQ (cK rfl ?_)
 refine qL (qC (.q 0 (.q 1 (.done))) Kr ?_)
 refine qS rfl rfl rfl rfl (qS rfl rfl rfl rfl (qR (qQ (qJ (qN (ret2 rfl rfl rfl (()) (by first | rfl | (first | rfl | (congr 1;done) | (congr 1 <;> first | rfl | omega | (simp;done) | (simp;omega)))) (by trivial) ?_))))))
 exact Tf
theorem rren (z:Int):Spec Tryz.prog 49 [.pointer none,.int .i64 z] [] (fun (_:Unit)=>.tuple #[.slice none 0 0,.bool false]) (fun _=>True) (fun _=>[]):=by
 refine kQ (n:=19) Tryz.func49 rfl rfl rfl ?_
 intro Γ w0
 simp only [argE,Ca,Na,Zd,Nat.reduceAdd]
 refine qL (qC (.q 0 (.q 1 (.done))) Kr ?_)
 refine qS rfl rfl rfl rfl (qS rfl rfl rfl rfl (qR (qQ (qL (qL (qC (.q 0 (.q 1 ((.l 2 [] (.q 3 (.done)))))) Kr ?_))))))
 refine qK rfl rfl rfl rfl (qK rfl rfl rfl rfl ?_)
 have sp_1:=rtheren z
 refine qM rfl rfl rfl rfl rfl rfl κ'92 (sp_1) Ts ?_
 rintro ⟨⟩ -
 try simp only [Ca,Na]
 refine qV (sY rfl rfl rfl rfl ?_)
 refine kB 9 rfl (v':=.bool true) rfl ?_
 refine qR (qW [0,1,9] (e':=[(0,_),(1,_),(9,_)]) rfl ?_)
 refine qQ (cK rfl ?_)
 refine qL (qC (.q 0 (.q 1 (.done))) Kr ?_)
 refine qS rfl rfl rfl rfl (qS rfl rfl rfl rfl (qR (qQ (qJ (qN (ret2 rfl rfl rfl (()) (by first | rfl | (first | rfl | (congr 1;done) | (congr 1 <;> first | rfl | omega | (simp;done) | (simp;omega)))) (by trivial) ?_))))))
 exact Tf
theorem rwrn (z:Int):Spec Tryz.prog 52 [.pointer none,.int .i64 z] [] (fun (_:Unit)=>.tuple #[.slice none 0 0,.bool false]) (fun _=>True) (fun _=>[]):=by
 refine kQ (n:=19) Tryz.func52 rfl rfl rfl ?_
 intro Γ w0
 simp only [argE,Ca,Na,Zd,Nat.reduceAdd]
 refine qL (qC (.q 0 (.q 1 (.done))) Kr ?_)
 refine qS rfl rfl rfl rfl (qS rfl rfl rfl rfl (qR (qQ (qL (qL (qC (.q 0 (.q 1 ((.l 2 [] (.q 3 (.done)))))) Kr ?_))))))
 refine qK rfl rfl rfl rfl (qK rfl rfl rfl rfl ?_)
 have sp_1:=rtheren z
 refine qM rfl rfl rfl rfl rfl rfl κ'92 (sp_1) Ts ?_
 rintro ⟨⟩ -
 try simp only [Ca,Na]
 refine qV (sY rfl rfl rfl rfl ?_)
 refine kB 9 rfl (v':=.bool true) rfl ?_
 refine qR (qW [0,1,9] (e':=[(0,_),(1,_),(9,_)]) rfl ?_)
 refine qQ (cK rfl ?_)
 refine qL (qC (.q 0 (.q 1 (.done))) Kr ?_)
 refine qS rfl rfl rfl rfl (qS rfl rfl rfl rfl (qR (qQ (qJ (qN (ret2 rfl rfl rfl (()) (by first | rfl | (first | rfl | (congr 1;done) | (congr 1 <;> first | rfl | omega | (simp;done) | (simp;omega)))) (by trivial) ?_))))))
 exact Tf
theorem rcyn:Spec Tryz.prog 21 [.pointer none] [] (fun (_:Unit)=>.pointer none) (fun _=>True) (fun _=>[]):=by
 refine kQ (n:=64) Tryz.func21 rfl rfl rfl ?_
 intro Γ w0
 simp only [argE,Ca,Na,Zd,Nat.reduceAdd]
 refine qL (qC (.q 0 (.done)) Kr ?_)
 refine qS rfl rfl rfl rfl (qR (qQ (qL (qL (qC (.q 0 (.q 1 (.done))) Kr ?_)))))
 refine qK rfl rfl rfl rfl (cG rfl rfl rfl rfl υ'30 ?_)
 refine kB 6 rfl (v':=.bool true) rfl ?_
 refine qR (qQ (cK rfl ?_))
 refine qL (qC (.q 0 (.done)) Kr ?_)
 refine qS rfl rfl rfl rfl (qR (qQ (qJ (qN (kD rfl rfl (()) (by first | rfl | (first | rfl | (congr 1;done) | (congr 1 <;> first | rfl | omega | (simp;done) | (simp;omega)))) (by trivial) ?_)))))
 exact Tf
theorem own_ev (pa:Option Addr) (pc:Nat) (po:Option Addr) (poc:Nat) (o:Option Addr) (m:Option DS) (pl:List Int) (N:Int) (hN:N≤2000000000000) (hm:SOk pl N m) (k t u:Int):Spec Tryz.prog 16 [.pointer o,.agg #[.int .i64 k,.int .i64 t,.int .i64 u]] [ownP pa pc po poc o m,own 1 encZ pa pc pl,own 1 encZ po poc pl] (fun (_:Unit)=>.int .i64 (sE m k t u)) (fun _=>True) (fun _=>[ownP pa pc po poc o (m.map fun x=>deF x k t u),own 1 encZ pa pc pl,own 1 encZ po poc pl]):=by
  refine own_up (fun _=>m.map fun x=>deF x k t u) () _ (devn k t u) (fun b=>devz b k t u) (fun h=>⟨by subst h;rfl,trivial,by subst h;rfl,by subst h;exact fun Γ h s=>s⟩) (fun x hx=>?_)
  obtain ⟨h1,h2,h3,h4⟩:=hm x hx
  subst hx
  exact ⟨fun _=>deF x k t u,fun _=>rfl,fun b _=>Dj.event_spec pa pc po poc b x h1 Om pl h3 k t u⟩
theorem own_fl (pa:Option Addr) (pc:Nat) (po:Option Addr) (poc:Nat) (o:Option Addr) (m:Option DS) (pl:List Int) (N:Int) (hN:N≤2000000000000) (hm:SOk pl N m):Spec Tryz.prog 13 [.pointer o] [ownP pa pc po poc o m] (fun (r:Option Addr × Nat)=>.slice r.1 (sFl m).length r.2) (fun r=>True) (fun r=>[ownP pa pc po poc o m,own 2 enc2 r.1 r.2 (sFl m)]):=by
  refine own_up (fun _=>m) (none,0) _ (dfln ) (fun b=>dflz b ) (fun h=>⟨by subst h;rfl,trivial,by subst h;rfl,by subst h;exact fun Γ h s=>sR (sz:=2) (enc:=enc2) s⟩) (fun x hx=>?_)
  obtain ⟨h1,h2,h3,h4⟩:=hm x hx
  subst hx
  exact ⟨fun _=>x,fun _=>rfl,fun b _=>Dj.flags_spec pa pc po poc b x h1 ⟩
theorem own_ve (pa:Option Addr) (pc:Nat) (po:Option Addr) (poc:Nat) (o:Option Addr) (m:Option DS) (pl:List Int) (N:Int) (hN:N≤2000000000000) (hm:SOk pl N m) (z:Int):Spec Tryz.prog 15 [.pointer o,.int .i64 z] [ownP pa pc po poc o m] (fun (r:Option Addr × Nat)=>.slice r.1 (sV m z).length r.2) (fun r=>True) (fun r=>[ownP pa pc po poc o m,own 1 encU r.1 r.2 (sV m z)]):=by
  refine own_up (fun _=>m) (none,0) _ (dven z) (fun b=>dvez b z) (fun h=>⟨by subst h;rfl,trivial,by subst h;rfl,by subst h;exact fun Γ h s=>sR (sz:=1) (enc:=encU) s⟩) (fun x hx=>?_)
  obtain ⟨h1,h2,h3,h4⟩:=hm x hx
  subst hx
  exact ⟨fun _=>x,fun _=>rfl,fun b _=>Dj.vector_spec pa pc po poc b x h1 z⟩
theorem own_co (pa:Option Addr) (pc:Nat) (po:Option Addr) (poc:Nat) (o:Option Addr) (m:Option DS) (pl:List Int) (N:Int) (hN:N≤2000000000000) (hm:SOk pl N m):Spec Tryz.prog 56 [.pointer o] [ownP pa pc po poc o m] (fun (_:Unit)=>.int .i64 (sC m)) (fun _=>True) (fun _=>[ownP pa pc po poc o m]):=by
  refine own_up (fun _=>m) () _ (dcon ) (fun b=>dcoz b ) (fun h=>⟨by subst h;rfl,trivial,by subst h;rfl,by subst h;exact fun Γ h s=>s⟩) (fun x hx=>?_)
  obtain ⟨h1,h2,h3,h4⟩:=hm x hx
  subst hx
  exact ⟨fun _=>x,fun _=>rfl,fun b _=>Dj.cost_spec pa pc po poc b x h1 ⟩
theorem own_le (pa:Option Addr) (pc:Nat) (po:Option Addr) (poc:Nat) (o:Option Addr) (m:Option DS) (pl:List Int) (N:Int) (hN:N≤2000000000000) (hm:SOk pl N m):Spec Tryz.prog 54 [.pointer o] [ownP pa pc po poc o m] (fun (_:Unit)=>.int .i64 (sN m)) (fun _=>True) (fun _=>[ownP pa pc po poc o m]):=by
  refine own_up (fun _=>m) () _ (dlen ) (fun b=>dlez b ) (fun h=>⟨by subst h;rfl,trivial,by subst h;rfl,by subst h;exact fun Γ h s=>s⟩) (fun x hx=>?_)
  obtain ⟨h1,h2,h3,h4⟩:=hm x hx
  subst hx
  exact ⟨fun _=>x,fun _=>rfl,fun b _=>Dj.len_spec pa pc po poc b x h1 ⟩
theorem own_fd (pa:Option Addr) (pc:Nat) (po:Option Addr) (poc:Nat) (o:Option Addr) (m:Option DS) (pl:List Int) (N:Int) (hN:N≤2000000000000) (hm:SOk pl N m) (z:Int):Spec Tryz.prog 46 [.pointer o,.int .i64 z] [ownP pa pc po poc o m] (fun (_:Unit)=>.tuple #[.int .i64 (fgF (sW m z)),.bool (fdF (sW m z))]) (fun _=>True) (fun _=>[ownP pa pc po poc o m]):=by
  refine own_up (fun _=>m) () _ (dfdn z) (fun b=>dfdz b z) (fun h=>⟨by subst h;rfl,trivial,by subst h;rfl,by subst h;exact fun Γ h s=>s⟩) (fun x hx=>?_)
  obtain ⟨h1,h2,h3,h4⟩:=hm x hx
  subst hx
  exact ⟨fun _=>x,fun _=>rfl,fun b _=>Dj.flagged_spec pa pc po poc b x h1 z⟩
theorem own_re (pa:Option Addr) (pc:Nat) (po:Option Addr) (poc:Nat) (o:Option Addr) (m:Option DS) (pl:List Int) (N:Int) (hN:N≤2000000000000) (hm:SOk pl N m) (z:Int):Spec Tryz.prog 48 [.pointer o,.int .i64 z] [ownP pa pc po poc o m] (fun (r:Option Addr × Nat)=>.tuple #[.slice r.1 (rdsF (sW m z)).length r.2,.bool (sW m z).isSome]) (fun r=>True) (fun r=>[ownP pa pc po poc o m,own 1 encU r.1 r.2 (rdsF (sW m z))]):=by
  refine own_up (fun _=>m) (none,0) _ (dren z) (fun b=>drez b z) (fun h=>⟨by subst h;rfl,trivial,by subst h;rfl,by subst h;exact fun Γ h s=>sR (sz:=1) (enc:=encU) s⟩) (fun x hx=>?_)
  obtain ⟨h1,h2,h3,h4⟩:=hm x hx
  subst hx
  exact ⟨fun _=>x,fun _=>rfl,fun b _=>Dj.reads_spec pa pc po poc b x h1 z⟩
theorem own_wr (pa:Option Addr) (pc:Nat) (po:Option Addr) (poc:Nat) (o:Option Addr) (m:Option DS) (pl:List Int) (N:Int) (hN:N≤2000000000000) (hm:SOk pl N m) (z:Int):Spec Tryz.prog 51 [.pointer o,.int .i64 z] [ownP pa pc po poc o m] (fun (r:Option Addr × Nat)=>.tuple #[.slice r.1 (wrsF (sW m z)).length r.2,.bool (sW m z).isSome]) (fun r=>True) (fun r=>[ownP pa pc po poc o m,own 1 encU r.1 r.2 (wrsF (sW m z))]):=by
  refine own_up (fun _=>m) (none,0) _ (dwrn z) (fun b=>dwrz b z) (fun h=>⟨by subst h;rfl,trivial,by subst h;rfl,by subst h;exact fun Γ h s=>sR (sz:=1) (enc:=encU) s⟩) (fun x hx=>?_)
  obtain ⟨h1,h2,h3,h4⟩:=hm x hx
  subst hx
  exact ⟨fun _=>x,fun _=>rfl,fun b _=>Dj.writes_spec pa pc po poc b x h1 z⟩
theorem ref_ev (ra:Option Addr) (rc:Nat) (o:Option Addr) (m:Option DS) (pl:List Int) (N:Int) (hN:N≤2000000000000) (hm:SOk pl N m) (k t u:Int):Spec Tryz.prog 18 [.pointer o,.agg #[.int .i64 k,.int .i64 t,.int .i64 u]] [refP ra rc o m,own 1 encZ ra rc pl] (fun (_:Unit)=>.int .i64 (sE m k t u)) (fun _=>True) (fun _=>[refP ra rc o (m.map fun x=>deF x k t u),own 1 encZ ra rc pl]):=by
  refine ref_up (fun _=>m.map fun x=>deF x k t u) () _ (revn k t u) (fun h=>⟨by subst h;rfl,trivial,by subst h;rfl,by subst h;exact fun Γ h s=>s⟩) (fun x hx=>?_)
  obtain ⟨h1,h2,h3,h4⟩:=hm x hx
  subst hx
  exact ⟨fun _=>deF x k t u,fun _=>rfl,fun b _=>revent_spec ra rc b x h1 Om pl h3 k t u⟩
theorem ref_fl (ra:Option Addr) (rc:Nat) (o:Option Addr) (m:Option DS) (pl:List Int) (N:Int) (hN:N≤2000000000000) (hm:SOk pl N m):Spec Tryz.prog 45 [.pointer o] [refP ra rc o m] (fun (r:Option Addr × Nat)=>.slice r.1 (sFl m).length r.2) (fun r=>True) (fun r=>[refP ra rc o m,own 2 enc2 r.1 r.2 (sFl m)]):=by
  refine ref_up (fun _=>m) (none,0) _ (rfln ) (fun h=>⟨by subst h;rfl,trivial,by subst h;rfl,by subst h;exact fun Γ h s=>sR (sz:=2) (enc:=enc2) s⟩) (fun x hx=>?_)
  obtain ⟨h1,h2,h3,h4⟩:=hm x hx
  subst hx
  exact ⟨fun _=>x,fun _=>rfl,fun b _=>rflags_spec ra rc b x h1 ⟩
theorem ref_ve (ra:Option Addr) (rc:Nat) (o:Option Addr) (m:Option DS) (pl:List Int) (N:Int) (hN:N≤2000000000000) (hm:SOk pl N m) (z:Int):Spec Tryz.prog 53 [.pointer o,.int .i64 z] [refP ra rc o m] (fun (r:Option Addr × Nat)=>.slice r.1 (sV m z).length r.2) (fun r=>True) (fun r=>[refP ra rc o m,own 1 encU r.1 r.2 (sV m z)]):=by
  refine ref_up (fun _=>m) (none,0) _ (rven z) (fun h=>⟨by subst h;rfl,trivial,by subst h;rfl,by subst h;exact fun Γ h s=>sR (sz:=1) (enc:=encU) s⟩) (fun x hx=>?_)
  obtain ⟨h1,h2,h3,h4⟩:=hm x hx
  subst hx
  exact ⟨fun _=>x,fun _=>rfl,fun b _=>rvector_spec ra rc b x h1 z⟩
theorem ref_co (ra:Option Addr) (rc:Nat) (o:Option Addr) (m:Option DS) (pl:List Int) (N:Int) (hN:N≤2000000000000) (hm:SOk pl N m):Spec Tryz.prog 57 [.pointer o] [refP ra rc o m] (fun (_:Unit)=>.int .i64 (sC m)) (fun _=>True) (fun _=>[refP ra rc o m]):=by
  refine ref_up (fun _=>m) () _ (rcon ) (fun h=>⟨by subst h;rfl,trivial,by subst h;rfl,by subst h;exact fun Γ h s=>s⟩) (fun x hx=>?_)
  obtain ⟨h1,h2,h3,h4⟩:=hm x hx
  subst hx
  exact ⟨fun _=>x,fun _=>rfl,fun b _=>rcost_spec ra rc b x ⟩
theorem ref_le (ra:Option Addr) (rc:Nat) (o:Option Addr) (m:Option DS) (pl:List Int) (N:Int) (hN:N≤2000000000000) (hm:SOk pl N m):Spec Tryz.prog 55 [.pointer o] [refP ra rc o m] (fun (_:Unit)=>.int .i64 (sN m)) (fun _=>True) (fun _=>[refP ra rc o m]):=by
  refine ref_up (fun _=>m) () _ (rlen ) (fun h=>⟨by subst h;rfl,trivial,by subst h;rfl,by subst h;exact fun Γ h s=>s⟩) (fun x hx=>?_)
  obtain ⟨h1,h2,h3,h4⟩:=hm x hx
  subst hx
  exact ⟨fun _=>x,fun _=>rfl,fun b _=>rlen_spec ra rc b x h1 ⟩
theorem ref_fd (ra:Option Addr) (rc:Nat) (o:Option Addr) (m:Option DS) (pl:List Int) (N:Int) (hN:N≤2000000000000) (hm:SOk pl N m) (z:Int):Spec Tryz.prog 47 [.pointer o,.int .i64 z] [refP ra rc o m] (fun (_:Unit)=>.tuple #[.int .i64 (fgF (sW m z)),.bool (fdF (sW m z))]) (fun _=>True) (fun _=>[refP ra rc o m]):=by
  refine ref_up (fun _=>m) () _ (rfdn z) (fun h=>⟨by subst h;rfl,trivial,by subst h;rfl,by subst h;exact fun Γ h s=>s⟩) (fun x hx=>?_)
  obtain ⟨h1,h2,h3,h4⟩:=hm x hx
  subst hx
  exact ⟨fun _=>x,fun _=>rfl,fun b _=>rflagged_spec ra rc b x h1 h2 z⟩
theorem ref_re (ra:Option Addr) (rc:Nat) (o:Option Addr) (m:Option DS) (pl:List Int) (N:Int) (hN:N≤2000000000000) (hm:SOk pl N m) (z:Int):Spec Tryz.prog 49 [.pointer o,.int .i64 z] [refP ra rc o m] (fun (r:Option Addr × Nat)=>.tuple #[.slice r.1 (rdsF (sW m z)).length r.2,.bool (sW m z).isSome]) (fun r=>True) (fun r=>[refP ra rc o m,own 1 encU r.1 r.2 (rdsF (sW m z))]):=by
  refine ref_up (fun _=>m) (none,0) _ (rren z) (fun h=>⟨by subst h;rfl,trivial,by subst h;rfl,by subst h;exact fun Γ h s=>sR (sz:=1) (enc:=encU) s⟩) (fun x hx=>?_)
  obtain ⟨h1,h2,h3,h4⟩:=hm x hx
  subst hx
  exact ⟨fun _=>x,fun _=>rfl,fun b _=>rreads_spec ra rc b x h1 z⟩
theorem ref_wr (ra:Option Addr) (rc:Nat) (o:Option Addr) (m:Option DS) (pl:List Int) (N:Int) (hN:N≤2000000000000) (hm:SOk pl N m) (z:Int):Spec Tryz.prog 52 [.pointer o,.int .i64 z] [refP ra rc o m] (fun (r:Option Addr × Nat)=>.tuple #[.slice r.1 (wrsF (sW m z)).length r.2,.bool (sW m z).isSome]) (fun r=>True) (fun r=>[refP ra rc o m,own 1 encU r.1 r.2 (wrsF (sW m z))]):=by
  refine ref_up (fun _=>m) (none,0) _ (rwrn z) (fun h=>⟨by subst h;rfl,trivial,by subst h;rfl,by subst h;exact fun Γ h s=>sR (sz:=1) (enc:=encU) s⟩) (fun x hx=>?_)
  obtain ⟨h1,h2,h3,h4⟩:=hm x hx
  subst hx
  exact ⟨fun _=>x,fun _=>rfl,fun b _=>rwrites_spec ra rc b x h1 z⟩
theorem own_evs (pa:Option Addr) (pc:Nat) (po:Option Addr) (poc:Nat) (o:Option Addr) (m:Option DS) (pl:List Int) (N:Int) (hN:N≤2000000000000) (hm:SOk pl N m) (xs:List T3) (ao:Option Addr) (n cc:Nat) (A:HProp) (hr:RdS A ao (xs.flatMap enc3)) (hxn:xs.length=n) (hb:n≤4000000):Spec Tryz.prog 10 [.pointer o,.slice ao n cc] [ownP pa pc po poc o m,A,own 1 encZ pa pc pl,own 1 encZ po poc pl] (fun (i:Nat)=>.tuple #[.int .i64 ((i:Nat):Int),.int .i64 (evsE m n i)]) (fun i=>EvsOk m xs n i) (fun i=>[ownP pa pc po poc o (m.map fun x=>dAll x (xs.take i)),A,own 1 encZ pa pc pl,own 1 encZ po poc pl]):=by
  refine own_up (fun i=>m.map fun x=>dAll x (xs.take i)) 0 _ (devsn ao n cc) (fun b=>devsz b ao n cc) (fun h=>⟨by subst h;rfl,⟨Nat.zero_le _,fun _=>rfl,fun x hx=>(by rw [h] at hx;cases hx)⟩,by subst h;rfl,fun Γ h s=>s⟩) (fun x hx=>?_)
  obtain ⟨h1,h2,h3,h4⟩:=hm x hx
  subst hx
  refine ⟨fun i=>dAll x (xs.take i),fun _=>rfl,fun b _=>?_⟩
  exact (Dj.events_spec pa pc po poc b x h1 Om pl h3 xs ao n cc A hr hxn hb).conseq (fun Γ hp s=>s.swap) (fun y hy=>⟨y,rfl,⟨hy.1,fun h=>(by cases h),fun z hz=>(by cases hz;exact hy.2)⟩,fun Γ hp s=>s.swap⟩)
theorem ref_evs (ra:Option Addr) (rc:Nat) (o:Option Addr) (m:Option DS) (pl:List Int) (N:Int) (hN:N≤2000000000000) (hm:SOk pl N m) (xs:List T3) (ao:Option Addr) (n cc:Nat) (A:HProp) (hr:RdS A ao (xs.flatMap enc3)) (hxn:xs.length=n) (hb:n≤4000000):Spec Tryz.prog 19 [.pointer o,.slice ao n cc] [refP ra rc o m,A,own 1 encZ ra rc pl] (fun (i:Nat)=>.tuple #[.int .i64 ((i:Nat):Int),.int .i64 (evsE m n i)]) (fun i=>EvsOk m xs n i) (fun i=>[refP ra rc o (m.map fun x=>dAll x (xs.take i)),A,own 1 encZ ra rc pl]):=by
  refine ref_up (fun i=>m.map fun x=>dAll x (xs.take i)) 0 _ (revsn ao n cc) (fun h=>⟨by subst h;rfl,⟨Nat.zero_le _,fun _=>rfl,fun x hx=>(by rw [h] at hx;cases hx)⟩,by subst h;rfl,fun Γ h s=>s⟩) (fun x hx=>?_)
  obtain ⟨h1,h2,h3,h4⟩:=hm x hx
  subst hx
  refine ⟨fun i=>dAll x (xs.take i),fun _=>rfl,fun b _=>?_⟩
  exact (revents_spec ra rc b x h1 Om pl h3 xs ao n cc A hr hxn hb).conseq (fun Γ hp s=>s.swap) (fun y hy=>⟨y,rfl,⟨hy.1,fun h=>(by cases h),fun z hz=>(by cases hz;exact hy.2)⟩,fun Γ hp s=>s.swap⟩)
theorem own_cy (pa:Option Addr) (pc:Nat) (po:Option Addr) (poc:Nat) (o:Option Addr) (m:Option DS) (pl:List Int) (N:Int) (hN:N≤2000000000000) (hm:SOk pl N m):Spec Tryz.prog 20 [.pointer o] [ownP pa pc po poc o m] (fun (r:Option Addr)=>.pointer r) (fun r=>(r=none↔m=none)∧(r≠none→r≠o)) (fun r=>[ownP pa pc po poc o m,ownP pa pc po poc r m,hdP r]):=by
  refine own_up (fun _=>m) none _ dcyn (fun b=>dcyz b) (fun h=>⟨by subst h;rfl,⟨⟨fun _=>h,fun _=>rfl⟩,fun q=>absurd rfl q⟩,h,fun Γ hp s=>by subst h;exact sat_free (.inl rfl) (sat_free (fun a h=>by cases h) s)⟩) (fun x hx=>?_)
  obtain ⟨h1,h2,h3,h4⟩:=hm x hx
  subst hx
  refine ⟨fun _=>x,fun _=>rfl,fun b hob Γ w s=>?_⟩
  refine (dcopy_spec pa pc po poc b x h1 Γ w s).mono fun e w' ⟨r,e1,_,s',a⟩=>⟨some ⟨r,0,none⟩,e1,⟨⟨fun h=>(by cases h),fun h=>(by cases h)⟩,fun _ h=>dR_ne s' (by have h9:=congrArg (fun q:Option Addr=>(q.map (·.block)).getD 0) (h.trans hob);exact h9)⟩,?_,a⟩
  obtain ⟨k1,l1,a1,k2,l2,a2,k3,l3,a3,s2⟩:=s'
  exact ⟨k1,l1,a1,k2,l2,⟨r,rfl,a2⟩,k3,l3,(fun a ha=>⟨r,(Option.some.inj ha).symm,a3⟩),s2⟩
theorem ref_cy (ra:Option Addr) (rc:Nat) (o:Option Addr) (m:Option DS) (pl:List Int) (N:Int) (hN:N≤2000000000000) (hm:SOk pl N m):Spec Tryz.prog 21 [.pointer o] [refP ra rc o m] (fun (r:Option Addr)=>.pointer r) (fun r=>r=none↔m=none) (fun r=>[refP ra rc o m,refP ra rc r m]):=by
  refine ref_up (fun _=>m) none _ rcyn (fun h=>⟨by subst h;rfl,⟨fun _=>h,fun _=>rfl⟩,h,fun Γ hp s=>by subst h;exact sat_free rfl s⟩) (fun x hx=>?_)
  obtain ⟨h1,h2,h3,h4⟩:=hm x hx
  subst hx
  refine ⟨fun _=>x,fun _=>rfl,fun b hob Γ w s=>?_⟩
  refine (rcopy_spec ra rc b x h1 Om Γ w s).mono fun e w' ⟨r,e1,_,s',a⟩=>⟨some ⟨r,0,none⟩,e1,⟨fun h=>(by cases h),fun h=>(by cases h)⟩,?_,a⟩
  obtain ⟨k1,l1,a1,k2,l2,a2,s2⟩:=s'
  exact ⟨k1,l1,a1,k2,l2,⟨r,rfl,a2⟩,s2⟩
end Go.Ab.Rv
set_option linter.unusedVariables false
set_option linter.unusedSimpArgs false
set_option maxRecDepth 100000
namespace Go.Ab.Dj
open Go Go.Proofs Go.Ab Go.Ab.Fe Go.Ab.Vc
def xw0:DS:=dNew 2 1 0 0 []
def ew:List T3:=[(7,0,1),(2,0,0),(2,1,0)]
def xw3:DS:=dAll xw0 ew
theorem okw:OkS 2 1 0 0 []:=okS_iff.2 (by decide)
theorem xw0_inv:DInv xw0:=new_dinv okw (new_inv okw)
theorem xw3_inv:DInv xw3:=dAll_inv xw0_inv ew
theorem ew_all:∀ i:Nat,i≤3→(i < 3→∀ e,ew[i]?=some e→¬ canE (dAll xw0 (ew.take i)) e)→i=3:=by
  intro i h1 h2
  rcases Nat.lt_or_ge i 3 with h | h
  · have h3:=h2 h
    rcases (show i=0∨i=1∨i=2 by omega) with rfl | rfl | rfl
    · exact absurd (show canE (dAll xw0 (ew.take 0)) (7,0,1) by decide) (h3 _ rfl)
    · exact absurd (show canE (dAll xw0 (ew.take 1)) (2,0,0) by decide) (h3 _ rfl)
    · exact absurd (show canE (dAll xw0 (ew.take 2)) (2,1,0) by decide) (h3 _ rfl)
  · omega
theorem xw3_flags:flF xw3.vs=[(0,2)]:=by decide
theorem xw3_th:thF xw3.v 1=[1,1]:=by decide
theorem xw3_no:¬ vcanF xw3.v 1 0 1:=by decide
theorem xw3_n:xw3.v.ck.n=3:=by decide
theorem xw3_pa:xw3.v.ck.pa=[]:=by decide
theorem same_spec (xs ys:List Int) (ao bo:Option Addr) (n m c d:Nat) (A:HProp) (hn:xs.length=n) (hr:RdS A ao (xs.flatMap encU)) (hm:ys.length=m) (hr2:RdS A bo (ys.flatMap encU)) (hb:n≤4000000000000):Spec Tryz.prog 14 [.slice ao n c,.slice bo m d] [A] (fun (_:Unit)=>.bool (decide (xs=ys))) (fun _=>True) (fun _=>[A]):=by
 refine kQ (n:=26) Tryz.func14 rfl rfl rfl ?_
 intro Γ w0
 simp only [argE,Ca,Na,Zd,Nat.reduceAdd]
 refine qL (qC (.q 0 (.done)) Kr ?_)
 refine qS rfl rfl rfl rfl (qR (qQ (qL (qL (qC (.q 0 (.q 1 (.q 2 (.q 3 (.q 4 (.done)))))) Kr ?_)))))
 refine qK rfl rfl rfl rfl (cJ rfl rfl rfl rfl υ'65 ?_)
 refine qK rfl rfl rfl rfl (cJ rfl rfl rfl rfl υ'65 ?_)
 refine qB rfl rfl rfl rfl rfl (b_neq _ _ _ _) ?_
 refine qR (qW [0,1,10] (e':=[(0,_),(1,_),(10,_)]) rfl ?_)
 refine qQ ?_
 refine qD rfl (fun hne=>?_) (fun hne=>?_)
 ·
  refine qL (qC (.q 0 (.done)) Kr ?_)
  refine qS rfl rfl rfl rfl (qR (qQ (qJ (qN (kD rfl rfl (()) (by congr 1;symm;simp only [decide_eq_false_iff_not];intro e;rw [e] at hn;omega) (by trivial) ?_)))))
  exact Tf
 refine qF (qQ (qL (qL (qC (.q 0 (.done)) Kr ?_))))
 refine qS rfl rfl rfl rfl (qR (qQ (kC ?_)))
 have hnm:n=m:=by omega
 subst hnm
 refine cH (α:=Nat) (fun (i:Nat)=>i≤n∧(xs.take i=ys.take i)) (fun (i:Nat)=>[(5,.int .i64 ((i:Nat):Int))]) (fun (i:Nat)=>[]) (fun (i:Nat)=>n - i) [0,1] (er:=[(0,_),(1,_)]) rfl (0) ?_ (by exact ⟨rfl,trivial⟩) (by (try dsimp only);(try simp only [Ad,Zd]);(repeat ((with_reducible apply Z2);focus (first | (with_reducible (repeat (first | exact Z0 | apply Z1));done) | (repeat (first | exact Z0 | apply Z1)))));exact Z3) ?_
 · exact ⟨Nat.zero_le _,rfl⟩
 rintro i ⟨hle_i,ht⟩
 try simp only [Ca,Na]
 refine qL (qL (qC (.q 0 (.q 1 (.q 2 (.q 3 (.done))))) Kr ?_))
 refine qK rfl rfl rfl rfl (qK rfl rfl rfl rfl (cJ rfl rfl rfl rfl υ'65 ?_))
 refine qB rfl rfl rfl rfl rfl (cB _ _ _ _) ?_
 refine qR (qQ ?_)
 refine qD rfl (fun hlt=>?_) (fun hlt=>?_)
 ·
  refine qF (qQ (qL (kC (qL (kL rfl (.q 0 (.q 1 (.q 2 (.q 3 (.q 4 (.q 5 (.q 6 (.q 7 (.q 8 (.done)))))))))) Kr ?_)))))
  refine qK rfl rfl rfl rfl (qK rfl rfl rfl rfl ?_)
  obtain ⟨x,hx⟩:=cR (l:=xs) (i:=i) (by first | omega | (simp;done) | (simp;omega))
  refine q_idxR (sz:=0) (k:=i) rfl rfl rfl rfl rfl υ'65 ζ'67 (hr) hx encU_len (by first | rfl | omega) Om ?_
  intro ib19 io19 _ hd19
  refine q_load rfl rfl rfl rfl α'67 Tk (hd19 0 (.int .u64 x) rfl) ?_
  refine qK rfl rfl rfl rfl (qK rfl rfl rfl rfl ?_)
  obtain ⟨y,hy⟩:=cR (l:=ys) (i:=i) (by first | omega | (simp;done) | (simp;omega))
  refine q_idxR (sz:=0) (k:=i) rfl rfl rfl rfl rfl υ'65 ζ'67 (hr2) hy encU_len (by first | rfl | omega) Om ?_
  intro ib23 io23 _ hd23
  refine q_load rfl rfl rfl rfl α'67 Tk (hd23 0 (.int .u64 y) rfl) ?_
  refine qB rfl rfl rfl rfl rfl (b_neq _ _ _ _) ?_
  refine qR (qW [0,1,5,25] (e':=[(0,_),(1,_),(5,_),(25,_)]) rfl ?_)
  refine qQ ?_
  refine qD rfl (fun hxy=>?_) (fun hxy=>?_)
  ·
   refine qL (qC (.q 0 (.done)) Kr ?_)
   refine qS rfl rfl rfl rfl (qR (qW [4] (e':=[(4,_)]) rfl ?_))
   refine qQ (qJ (kM (qN (qN (kM (qN (kD rfl rfl (()) (by congr 1;symm;simp only [decide_eq_false_iff_not];intro e;rw [e,hy] at hx;cases hx;exact hxy rfl) (by trivial) ?_)))))))
   exact Tf
  have hxy:x=y:=Classical.byContradiction hxy
  refine qF (kX (qQ (qC (.q 0 (.q 1 (.q 2 (.done)))) Kr ?_)))
  refine qK rfl rfl rfl rfl (qB rfl rfl rfl rfl rfl (cV _ (by exact kP Om Om)) ?_)
  refine qS rfl rfl rfl rfl (qR (qQ ?_))
  refine kJ (x:=i) (i+1) ?_ ?_ ?_ ?_
  · exact ⟨by omega,by rw [List.take_add_one,List.take_add_one,hx,hy,ht,hxy]⟩
  · show n - (i+1) < n - i;omega
  · exact ⟨rfl,rfl,rfl,trivial⟩
  · (try simp only [Ca,Na]);exact Tf
 refine cW (qY (qY (kK (qQ (qL (qC (.q 0 (.done)) Kr ?_))))))
 refine qS rfl rfl rfl rfl (qR (qW [4] (e':=[(4,_)]) rfl ?_))
 refine qQ (qJ (kD rfl rfl (()) (by congr 1;symm;simp only [decide_eq_true_eq];obtain rfl:i=n:=Om;rw [List.take_of_length_le Om,List.take_of_length_le Om] at ht;exact ht) (by trivial) ?_))
 exact Tf
theorem flags_same (xs ys:List T2) (ao bo:Option Addr) (n m c d:Nat) (A:HProp) (hn:xs.length=n) (hr:RdS A ao (xs.flatMap enc2)) (hm:ys.length=m) (hr2:RdS A bo (ys.flatMap enc2)) (hb:n≤4000000000000):Spec Tryz.prog 12 [.slice ao n c,.slice bo m d] [A] (fun (_:Unit)=>.bool (decide (xs=ys))) (fun _=>True) (fun _=>[A]):=by
 refine kQ (n:=26) Tryz.func12 rfl rfl rfl ?_
 intro Γ w0
 simp only [argE,Ca,Na,Zd,Nat.reduceAdd]
 refine qL (qC (.q 0 (.done)) Kr ?_)
 refine qS rfl rfl rfl rfl (qR (qQ (qL (qL (qC (.q 0 (.q 1 (.q 2 (.q 3 (.q 4 (.done)))))) Kr ?_)))))
 refine qK rfl rfl rfl rfl (cJ rfl rfl rfl rfl υ'60 ?_)
 refine qK rfl rfl rfl rfl (cJ rfl rfl rfl rfl υ'60 ?_)
 refine qB rfl rfl rfl rfl rfl (b_neq _ _ _ _) ?_
 refine qR (qW [0,1,10] (e':=[(0,_),(1,_),(10,_)]) rfl ?_)
 refine qQ ?_
 refine qD rfl (fun hne=>?_) (fun hne=>?_)
 ·
  refine qL (qC (.q 0 (.done)) Kr ?_)
  refine qS rfl rfl rfl rfl (qR (qQ (qJ (qN (kD rfl rfl (()) (by congr 1;symm;simp only [decide_eq_false_iff_not];intro e;rw [e] at hn;omega) (by trivial) ?_)))))
  exact Tf
 refine qF (qQ (qL (qL (qC (.q 0 (.done)) Kr ?_))))
 refine qS rfl rfl rfl rfl (qR (qQ (kC ?_)))
 have hnm:n=m:=by omega
 subst hnm
 refine cH (α:=Nat) (fun (i:Nat)=>i≤n∧(xs.take i=ys.take i)) (fun (i:Nat)=>[(5,.int .i64 ((i:Nat):Int))]) (fun (i:Nat)=>[]) (fun (i:Nat)=>n - i) [0,1] (er:=[(0,_),(1,_)]) rfl (0) ?_ (by exact ⟨rfl,trivial⟩) (by (try dsimp only);(try simp only [Ad,Zd]);(repeat ((with_reducible apply Z2);focus (first | (with_reducible (repeat (first | exact Z0 | apply Z1));done) | (repeat (first | exact Z0 | apply Z1)))));exact Z3) ?_
 · exact ⟨Nat.zero_le _,rfl⟩
 rintro i ⟨hle_i,ht⟩
 try simp only [Ca,Na]
 refine qL (qL (qC (.q 0 (.q 1 (.q 2 (.q 3 (.done))))) Kr ?_))
 refine qK rfl rfl rfl rfl (qK rfl rfl rfl rfl (cJ rfl rfl rfl rfl υ'60 ?_))
 refine qB rfl rfl rfl rfl rfl (cB _ _ _ _) ?_
 refine qR (qQ ?_)
 refine qD rfl (fun hlt=>?_) (fun hlt=>?_)
 ·
  refine qF (qQ (qL (kC (qL (kL rfl (.q 0 (.q 1 (.q 2 (.q 3 (.q 4 (.q 5 (.q 6 (.q 7 (.q 8 (.done)))))))))) Kr ?_)))))
  refine qK rfl rfl rfl rfl (qK rfl rfl rfl rfl ?_)
  obtain ⟨x,hx⟩:=cR (l:=xs) (i:=i) (by first | omega | (simp;done) | (simp;omega))
  refine q_idxR (sz:=1) (k:=i) rfl rfl rfl rfl rfl υ'60 ζ'63 (hr) hx enc2_len (by first | rfl | omega) Om ?_
  intro ib19 io19 _ hd19
  refine q_loadN (vs:=[_,_]) rfl rfl rfl rfl Tryz.isAgg63 ζ'63 Tk (hd19) rfl ?_
  refine qK rfl rfl rfl rfl (qK rfl rfl rfl rfl ?_)
  obtain ⟨y,hy⟩:=cR (l:=ys) (i:=i) (by first | omega | (simp;done) | (simp;omega))
  refine q_idxR (sz:=1) (k:=i) rfl rfl rfl rfl rfl υ'60 ζ'63 (hr2) hy enc2_len (by first | rfl | omega) Om ?_
  intro ib23 io23 _ hd23
  refine q_loadN (vs:=[_,_]) rfl rfl rfl rfl Tryz.isAgg63 ζ'63 Tk (hd23) rfl ?_
  refine q_neS rfl rfl rfl rfl rfl Kr (eqc_struct υ'63 Kr (eqf_cons rfl α'3 rfl rfl (eqc_int υ'3) (eqf_last rfl α'3 rfl rfl (eqc_int υ'3)))) ?_
  refine kB 25 rfl (v':=.bool (decide (x≠y))) (by first | (congr 1;done) | (congr 1;rw [Bool.eq_iff_iff];simp [Prod.ext_iff,and_assoc])) ?_
  refine qR (qW [0,1,5,25] (e':=[(0,_),(1,_),(5,_),(25,_)]) rfl ?_)
  refine qQ ?_
  refine qD rfl (fun hxy=>?_) (fun hxy=>?_)
  ·
   refine qL (qC (.q 0 (.done)) Kr ?_)
   refine qS rfl rfl rfl rfl (qR (qW [4] (e':=[(4,_)]) rfl ?_))
   refine qQ (qJ (kM (qN (qN (kM (qN (kD rfl rfl (()) (by congr 1;symm;simp only [decide_eq_false_iff_not];intro e;rw [e,hy] at hx;cases hx;exact hxy rfl) (by trivial) ?_)))))))
   exact Tf
  have hxy:x=y:=Classical.byContradiction hxy
  refine qF (kX (qQ (qC (.q 0 (.q 1 (.q 2 (.done)))) Kr ?_)))
  refine qK rfl rfl rfl rfl (qB rfl rfl rfl rfl rfl (cV _ (by exact kP Om Om)) ?_)
  refine qS rfl rfl rfl rfl (qR (qQ ?_))
  refine kJ (x:=i) (i+1) ?_ ?_ ?_ ?_
  · exact ⟨by omega,by rw [List.take_add_one,List.take_add_one,hx,hy,ht,hxy]⟩
  · show n - (i+1) < n - i;omega
  · exact ⟨rfl,rfl,rfl,trivial⟩
  · (try simp only [Ca,Na]);exact Tf
 refine cW (qY (qY (kK (qQ (qL (qC (.q 0 (.done)) Kr ?_))))))
 refine qS rfl rfl rfl rfl (qR (qW [4] (e':=[(4,_)]) rfl ?_))
 refine qQ (qJ (kD rfl rfl (()) (by congr 1;symm;simp only [decide_eq_true_eq];obtain rfl:i=n:=Om;rw [List.take_of_length_le Om,List.take_of_length_le Om] at ht;exact ht) (by trivial) ?_))
 exact Tf
theorem num_spec (z:Int):Spec Tryz.prog 11 [.int .i64 z] [] (fun (_:Unit)=>.int .i64 z) (fun _=>True) (fun _=>[]):=by
 refine kQ (n:=4) Tryz.func11 rfl rfl rfl ?_
 intro Γ w0
 simp only [argE,Ca,Na,Zd,Nat.reduceAdd]
 refine qL (qC (.q 0 (.done)) Kr ?_)
 refine qS rfl rfl rfl rfl (qR (qQ (qL (qC (.q 0 (.q 1 (.done))) Kr ?_))))
 refine qK rfl rfl rfl rfl (qS rfl rfl rfl rfl (qR (qQ (qJ (kD rfl rfl (()) (by first | rfl | (first | rfl | (congr 1;done) | (congr 1 <;> first | rfl | omega | (simp;done) | (simp;omega)))) (by trivial) ?_)))))
 exact Tf
theorem small_spec:Spec Tryz.prog 9 [] [] (fun (_:Unit)=>.agg #[.int .i64 2,.int .i64 1,.int .i64 0,.int .i64 0,.slice none 0 0]) (fun _=>True) (fun _=>[]):=by
 refine kQ (n:=2) Tryz.func9 rfl rfl rfl ?_
 intro Γ w0
 simp only [argE,Ca,Na,Zd,Nat.reduceAdd]
 refine qL (qC ((.l 0 [] (.done))) Kr ?_)
 refine sD rfl rfl rfl ω'24 (zs:=[.int .i64 0,.int .i64 0,.int .i64 0,.int .i64 0,.slice none 0 0]) rfl ?_
 intro b0
 refine qV (qR (qQ (qL (qC (.q 0 ((.l 1 [] (.done)))) Kr ?_))))
 refine cC rfl rfl rfl rfl (vs:=[_,_,_,_,_]) (kV υ'24 ω'24 (ps:=[(0,1),(1,1),(2,1),(3,1),(4,1)]) ⟨rfl,ζ'3,rfl,ζ'3,rfl,ζ'3,rfl,ζ'3,rfl,ζ'22,trivial⟩ rfl) ?_
 refine kH (j:=0) rfl rfl rfl rfl ζ'24 (us:=[_,_,_,_,_]) rfl rfl rfl Tk Az (by first | decide | (simp;done) | omega) ?_
 simp only [setL,List.set]
 refine qV (qR (qQ (qJ (retL (us:=[_]) rfl ⟨rv_cellN rfl α'24 ζ'24 Tk 0 rfl (us:=[_,_,_,_,_]) rfl rfl,trivial⟩ (()) (by first | rfl | (first | rfl | (congr 1;done) | (congr 1 <;> first | rfl | omega | (simp;done) | (simp;omega)))) (by trivial) ?_))))
 exact Tf
theorem works_spec:Spec Tryz.prog 4 [] [] (fun (_:Unit)=>.bool true) (fun _=>True) (fun _=>[]):=by
 refine kQ (n:=51) Tryz.func4 rfl rfl rfl ?_
 intro Γ w0
 simp only [argE,Ca,Na,Zd,Nat.reduceAdd]
 refine qL (qC (.q 0 (.done)) Kr ?_)
 refine qS rfl rfl rfl rfl (qR (qQ (qL (qC ((.l 0 [] ((.l 1 [] (.q 2 (.q 3 (.q 4 (.q 5 (.q 6 (.done)))))))))) Kr ?_))))
 refine qM rfl rfl rfl rfl rfl rfl Tryz.call9 (small_spec) Ts ?_
 rintro ⟨⟩ -
 try simp only [Ca,Na]
 refine qV (cQ (fun _ h=>Bun.fold (Γ:=[]) h) ?_)
 have sp_1:=Dj.new_spec 2 1 0 0 ([]) none 0 0 (Bun []) (.inl rfl) (by rfl) Om okw
 refine qM rfl rfl rfl rfl rfl rfl Tryz.call8 (sp_1) Ts ?_
 rintro ⟨d,⟨dpa,dpc⟩,dpo,dpoc⟩ -
 try simp only [Ca,Na]
 refine qV (qK rfl rfl rfl rfl (kY rfl rfl rfl rfl rfl (kY rfl rfl rfl rfl rfl (qS rfl rfl rfl rfl (qS rfl rfl rfl rfl (qR ?_))))))
 rw [show dNew 2 1 0 0 []=xw0 from rfl]
 refine qW [1,2] (e':=[(1,_),(2,_)]) rfl ?_
 refine qQ (qL (qC (.q 0 (.q 1 (.q 2 (.q 3 ((.l 4 [] ((.l 5 [] (.q 6 (.q 7 (.q 8 (.q 9 (.q 10 (.done)))))))))))))) Kr ?_))
 refine qK rfl rfl rfl rfl (cC rfl rfl rfl rfl (vs:=[_,_,_]) (kV υ'47 ω'47 (ps:=[(0,1),(1,1),(2,1)]) ⟨rfl,ζ'45,rfl,ζ'3,rfl,ζ'3,trivial⟩ rfl) ?_)
 refine cC rfl rfl rfl rfl (vs:=[_,_,_]) (kV υ'47 ω'47 (ps:=[(0,1),(1,1),(2,1)]) ⟨rfl,ζ'45,rfl,ζ'3,rfl,ζ'3,trivial⟩ rfl) ?_
 refine cC rfl rfl rfl rfl (vs:=[_,_,_]) (kV υ'47 ω'47 (ps:=[(0,1),(1,1),(2,1)]) ⟨rfl,ζ'45,rfl,ζ'3,rfl,ζ'3,trivial⟩ rfl) ?_
 refine cL rfl rfl rfl rfl (vs:=[_,_,_,_,_,_,_,_,_]) (run_buildSl υ'48 ζ'47 ω'47 rfl rfl rfl rfl) ?_
 intro b15
 refine qV ?_
 have sp_2:=events_spec dpa dpc dpo dpoc d xw0 xw0_inv (by decide) ([]) rfl ew (some ⟨b15,0,none⟩) 3 3 (cells b15 0 [.int .i64 7,.int .i64 0,.int .i64 1,.int .i64 2,.int .i64 0,.int .i64 0,.int .i64 2,.int .i64 1,.int .i64 0]) (sX sS) Ln Om
 refine qM rfl rfl rfl rfl rfl rfl Tryz.call10 (sp_2) Ts ?_
 rintro i ⟨hi1,hi2,hi3⟩
 try simp only [Ca,Na]
 refine qV ?_
 obtain rfl:=ew_all i hi1 hi3
 rw [show dAll xw0 (ew.take 3)=xw3 from rfl]
 refine qK rfl rfl rfl rfl (kY rfl rfl rfl rfl rfl (kY rfl rfl rfl rfl rfl (qS rfl rfl rfl rfl (qS rfl rfl rfl rfl (qR (qW [1,2,3,4] (e':=[(1,_),(2,_),(3,_),(4,_)]) rfl ?_))))))
 refine qQ (qL ?_)
 have hfl_:(flF xw3.vs).length=1:=by rw [xw3_flags];rfl
 have hvl_:(thF xw3.v 1).length=2:=by rw [xw3_th];rfl
 refine qC (.q 0 ((.l 1 [] (.q 2 (.q 3 (.q 4 ((.l 5 [] (.q 6 (.q 7 (.q 8 (.q 9 (.q 10 (.q 11 (.q 12 (.q 13 ((.l 14 [] (.q 15 ((.l 16 [] ((.l 17 [] (.q 18 (.q 19 (.q 20 ((.l 21 [] ((.l 22 [] ((.l 23 [] (.q 24 (.q 25 (.q 26 (.q 27 ((.l 28 [] ((.l 29 [] (.q 30 (.q 31 (.q 32 (.done)))))))))))))))))))))))))))))))))))))))))))) Kr ?_
 refine qK rfl rfl rfl rfl ?_
 have sp_3:=num_spec 0
 refine qM rfl rfl rfl rfl rfl rfl κ'11 (sp_3) Ts ?_
 rintro ⟨⟩ -
 try simp only [Ca,Na]
 refine qV (qB rfl rfl rfl rfl rfl (cP _ _ _ _) ?_)
 refine kB 21 rfl (v':=.bool true) (by first | rfl | simp) ?_
 refine qK rfl rfl rfl rfl (qK rfl rfl rfl rfl ?_)
 have sp_4:=num_spec 0
 refine qM rfl rfl rfl rfl rfl rfl κ'11 (sp_4) Ts ?_
 rintro ⟨⟩ -
 try simp only [Ca,Na]
 refine qV (qB rfl rfl rfl rfl rfl (cP _ _ _ _) ?_)
 refine kB 25 rfl (v':=.bool true) (by first | rfl | simp) ?_
 refine kW rfl rfl rfl rfl rfl (qK rfl rfl rfl rfl (qK rfl rfl rfl rfl (qB rfl rfl rfl rfl rfl (cP _ _ _ _) ?_)))
 refine kB 29 rfl (v':=.bool true) (by first | rfl | simp) ?_
 refine kW rfl rfl rfl rfl rfl (qK rfl rfl rfl rfl (qK rfl rfl rfl rfl ?_))
 have sp_5:=Dj.flags_spec dpa dpc dpo dpoc d xw3 xw3_inv
 refine qM rfl rfl rfl rfl rfl rfl Tryz.call13 (sp_5) Ts ?_
 rintro ⟨fa,fc⟩ -
 try simp only [Ca,Na]
 refine qV (cC rfl rfl rfl rfl (vs:=[_,_]) (kV υ'63 ω'63 (ps:=[(0,1),(1,1)]) ⟨rfl,ζ'3,rfl,ζ'3,trivial⟩ rfl) ?_)
 refine cL rfl rfl rfl rfl (sQ (us:=[_,_]) υ'60 ζ'63 rfl ω'63 rfl rfl rfl) ?_
 intro b35
 refine qV (cS (A:=own 2 enc2 fa fc (flF xw3.vs)) Tk ?_)
 refine own_fc fun f_6a f_6b f_6c=>?_
 refine cQ (fun _ h=>Bun.fold ((by (repeat ((with_reducible apply Z2);focus (first | (with_reducible (repeat (first | exact Z0 | apply Z1));done) | (repeat (first | exact Z0 | apply Z1)))));exact Z3:Takes _ [own 2 enc2 fa fc (flF xw3.vs),cells b35 0 [.int .i64 0,.int .i64 2]] _) _ h)) ?_
 have sp_7:=flags_same (flF xw3.vs) ([(0,2)]) fa (some ⟨b35,0,none⟩) ((flF xw3.vs).length) 1 fc 1 (Bun [own 2 enc2 fa fc (flF xw3.vs),cells b35 0 [.int .i64 0,.int .i64 2]]) Ln (rds_bun (List.mem_cons_self) (rR enc2_len (fun h=>(f_6b h).1) f_6c)) Ln (rds_bun (List.mem_cons_of_mem _ (List.mem_cons_self)) (sX sS)) Om
 refine qM rfl rfl rfl rfl rfl rfl Tryz.call12 (sp_7) Ts ?_
 rintro ⟨⟩ -
 try simp only [Ca,Na]
 refine cS (A:=Bun [own 2 enc2 fa fc (flF xw3.vs),cells b35 0 [.int .i64 0,.int .i64 2]]) Tk ?_
 refine s_bun ?_
 try simp only [Ca,Na]
 try simp only [Ca,Na]
 refine qV (kW rfl rfl rfl rfl rfl (qK rfl rfl rfl rfl ?_))
 refine cF 38 rfl (fun hg=>?_) (fun hg=>by exfalso;exact hg xw3_flags)
 refine qK rfl rfl rfl rfl ?_
 have sp_8:=Dj.vector_spec dpa dpc dpo dpoc d xw3 xw3_inv 1
 refine qM rfl rfl rfl rfl rfl rfl Tryz.call15 (sp_8) Ts ?_
 rintro ⟨va,vc⟩ -
 try simp only [Ca,Na]
 refine qV (cL rfl rfl rfl rfl (vs:=[_,_]) (run_buildSl υ'65 ζ'67 ω'67 rfl rfl rfl rfl) ?_)
 intro b41
 refine qV (cS (A:=own 1 encU va vc (thF xw3.v 1)) Tk ?_)
 refine own_fc fun f_9a f_9b f_9c=>?_
 refine cQ (fun _ h=>Bun.fold ((by (repeat ((with_reducible apply Z2);focus (first | (with_reducible (repeat (first | exact Z0 | apply Z1));done) | (repeat (first | exact Z0 | apply Z1)))));exact Z3:Takes _ [own 1 encU va vc (thF xw3.v 1),cells b41 0 [.int .u64 1,.int .u64 1]] _) _ h)) ?_
 have sp_10:=same_spec (thF xw3.v 1) ([1,1]) va (some ⟨b41,0,none⟩) ((thF xw3.v 1).length) 2 vc 2 (Bun [own 1 encU va vc (thF xw3.v 1),cells b41 0 [.int .u64 1,.int .u64 1]]) Ln (rds_bun (List.mem_cons_self) (rR encU_len (fun h=>(f_9b h).1) f_9c)) Ln (rds_bun (List.mem_cons_of_mem _ (List.mem_cons_self)) (sX sS)) Om
 refine qM rfl rfl rfl rfl rfl rfl Tryz.call14 (sp_10) Ts ?_
 rintro ⟨⟩ -
 try simp only [Ca,Na]
 refine cS (A:=Bun [own 1 encU va vc (thF xw3.v 1),cells b41 0 [.int .u64 1,.int .u64 1]]) Tk ?_
 refine s_bun ?_
 try simp only [Ca,Na]
 try simp only [Ca,Na]
 refine qV (kW rfl rfl rfl rfl rfl (qK rfl rfl rfl rfl ?_))
 refine cF 44 rfl (fun hg=>?_) (fun hg=>by exfalso;exact hg xw3_th)
 refine qK rfl rfl rfl rfl (cC rfl rfl rfl rfl (vs:=[_,_,_]) (kV υ'47 ω'47 (ps:=[(0,1),(1,1),(2,1)]) ⟨rfl,ζ'45,rfl,ζ'3,rfl,ζ'3,trivial⟩ rfl) ?_)
 have sp_11:=event_spec dpa dpc dpo dpoc d xw3 xw3_inv (by rw [xw3_n];decide) ([]) xw3_pa 1 0 1
 refine qM rfl rfl rfl rfl rfl rfl κ'16 (sp_11) Ts ?_
 rintro ⟨⟩ -
 try simp only [Ca,Na]
 refine qV ?_
 have sp_12:=num_spec (deE xw3 1 0 1)
 refine qM rfl rfl rfl rfl rfl rfl κ'11 (sp_12) Ts ?_
 rintro ⟨⟩ -
 try simp only [Ca,Na]
 refine qV (qB rfl rfl rfl rfl rfl (cP _ _ _ _) ?_)
 refine kB 49 rfl (v':=.bool true) (by rw [show deE xw3 1 0 1=6 from if_neg xw3_no];rfl) ?_
 refine kW rfl rfl rfl rfl rfl (qS rfl rfl rfl rfl (qR (qW [0] (e':=[(0,_)]) rfl ?_)))
 refine qQ (qJ (kD rfl rfl (()) (by first | rfl | (first | rfl | (congr 1;done) | (congr 1 <;> first | rfl | omega | (simp;done) | (simp;omega)))) (by trivial) ?_))
 exact Tf
end Go.Ab.Dj
set_option linter.unusedVariables false
set_option linter.unusedSimpArgs false
set_option maxRecDepth 100000
namespace Go.Ab.Rv
open Go Go.Proofs Go.Ab Go.Ab.Fe Go.Ab.Vc Go.Ab.Dj
/-- Lists that were answered, and what must stand in them. -/
structure BK where
  C:List (LstA Int)
  W:List (LstA Int)
  F:List (LstA T2)
  G:List (LstA T2)
structure BOk (n:Nat) (B:BK):Prop where
  c:B.C.map (·.2.2)=B.W.map (·.2.2)
  f:B.F.map (·.2.2)=B.G.map (·.2.2)
  cb:∀ x∈B.C,x.2.2.length≤65535
  fb:∀ x∈B.F,x.2.2.length≤65535
  cn:B.C.length≤n
  fn:B.F.length≤n
theorem bok_nil:BOk 0 ⟨[],[],[],[]⟩:=⟨rfl,rfl,fun x h=>(by cases h),fun x h=>(by cases h),Nat.le_refl _,Nat.le_refl _⟩
theorem bok_c {n:Nat} {B:BK} (h:BOk n B) {x y:LstA Int} (e:x.2.2=y.2.2) (hl:x.2.2.length≤65535):BOk (n+1) ⟨B.C++[x],B.W++[y],B.F,B.G⟩ :=
  ⟨by rw [List.map_append,List.map_append,h.c];simp [e],h.f,fun z hz=>by
    rcases List.mem_append.1 hz with hz | hz
    · exact h.cb z hz
    · simp only [List.mem_singleton] at hz;rw [hz];exact hl,h.fb,by have:=h.cn;simp;omega,by have:=h.fn;show B.F.length≤_;omega⟩
theorem bok_f {n:Nat} {B:BK} (h:BOk n B) {x y:LstA T2} (e:x.2.2=y.2.2) (hl:x.2.2.length≤65535):BOk (n+1) ⟨B.C,B.W,B.F++[x],B.G++[y]⟩ :=
  ⟨h.c,by rw [List.map_append,List.map_append,h.f];simp [e],h.cb,fun z hz=>by
    rcases List.mem_append.1 hz with hz | hz
    · exact h.fb z hz
    · simp only [List.mem_singleton] at hz;rw [hz];exact hl,by have:=h.cn;show B.C.length≤_;omega,by have:=h.fn;simp;omega⟩
theorem bok_more {n m:Nat} {B:BK} (h:BOk n B) (hn:n≤m):BOk m B:=⟨h.c,h.f,h.cb,h.fb,Nat.le_trans h.cn hn,Nat.le_trans h.fn hn⟩
theorem bok_len {n:Nat} {B:BK} (h:BOk n B):B.W.length=B.C.length∧B.G.length=B.F.length:=⟨by simpa using (congrArg List.length h.c).symm,by simpa using (congrArg List.length h.f).symm⟩
theorem same_at {α:Type} {C W:List (LstA α)} (h:C.map (·.2.2)=W.map (·.2.2)) {i:Nat} {x y:LstA α} (hx:C[i]?=some x) (hy:W[i]?=some y):x.2.2=y.2.2:=by
  have h1:(C.map (·.2.2))[i]?=some x.2.2:=by rw [List.getElem?_map,hx];rfl
  have h2:(W.map (·.2.2))[i]?=some y.2.2:=by rw [List.getElem?_map,hy];rfl
  rw [h,h2] at h1;exact (Option.some.inj h1).symm
def tabR (b:Nat) (o0 o1 r0 r1:Option Addr) (B:BK):HProp:=fun h=>∃ ca cc wa wc fa fc ga gc,Sat [cells b 0 [.pointer o0,.pointer o1,.pointer r0,.pointer r1,.slice ca B.C.length cc,.slice wa B.W.length wc,.slice fa B.F.length fc,.slice ga B.G.length gc],
  own 1 encH ca cc B.C,own 1 encH wa wc B.W,own 1 encH fa fc B.F,own 1 encH ga gc B.G,bigS (owA 1 encU) B.C,bigS (owA 1 encU) B.W,bigS (owA 2 enc2) B.F,bigS (owA 2 enc2) B.G] h
section
variable {w0:World} {ds:List Deferred} {n:Nat} {e:Env} {Γ Γ':List HProp} {X:Act→World→Prop}
theorem tab_open {b:Nat} {o0 o1 r0 r1:Option Addr} {B:BK} (tk:Take Γ (tabR b o0 o1 r0 r1 B) Γ') (k:∀ ca cc wa wc fa fc ga gc,Le (St w0 ds n e (cells b 0 [.pointer o0,.pointer o1,.pointer r0,.pointer r1,.slice ca B.C.length cc,.slice wa B.W.length wc,.slice fa B.F.length fc,.slice ga B.G.length gc] ::
    own 1 encH ca cc B.C::own 1 encH wa wc B.W::own 1 encH fa fc B.F::own 1 encH ga gc B.G::bigS (owA 1 encU) B.C::bigS (owA 1 encU) B.W::bigS (owA 2 enc2) B.F::bigS (owA 2 enc2) B.G::Γ')) X):Le (St w0 ds n e Γ) X:=fun a w s=>by
  obtain ⟨h1,l1,⟨ca,cc,wa,wc,fa,fc,ga,gc,a1⟩,s1⟩:=tk _ s.heap
  exact k ca cc wa wc fa fc ga gc a w ⟨s.defers,s.size,s.env,Bun.unfold ⟨h1,l1,a1,s1⟩,s.amb⟩
theorem tab_fold {b:Nat} {o0 o1 r0 r1:Option Addr} {C W:List (LstA Int)} {F G:List (LstA T2)} {ca wa fa ga:Option Addr} {cc wc fc gc n1 n2 n3 n4:Nat} (tk:Takes Γ [cells b 0 [.pointer o0,.pointer o1,.pointer r0,.pointer r1,.slice ca n1 cc,.slice wa n2 wc,.slice fa n3 fc,.slice ga n4 gc],
    own 1 encH ca cc C,own 1 encH wa wc W,own 1 encH fa fc F,own 1 encH ga gc G,bigS (owA 1 encU) C,bigS (owA 1 encU) W,bigS (owA 2 enc2) F,bigS (owA 2 enc2) G] Γ') (h1:n1=C.length) (h2:n2=W.length) (h3:n3=F.length) (h4:n4=G.length)
    (k:Le (St w0 ds n e (tabR b o0 o1 r0 r1 ⟨C,W,F,G⟩::Γ')) X):Le (St w0 ds n e Γ) X:=cQ (fun h s=>by
  subst h1 h2 h3 h4
  obtain ⟨h1,l1,a1,s1⟩:=Bun.fold (tk h s)
  exact ⟨h1,l1,⟨ca,cc,wa,wc,fa,fc,ga,gc,a1⟩,s1⟩) k
end
theorem sV_len {pl:List Int} {N:Int} {m:Option DS} (h:SOk pl N m) (z:Int):(sV m z).length≤65535:=by
  cases m with
  | none=>exact Nat.zero_le _
  | some x =>
    obtain ⟨h1,-⟩:=h x rfl
    show (thF x.v z).length≤_
    unfold thF
    cases hz:x.v.th z with
    | none=>exact Nat.zero_le _
    | some l=>exact (h1.v.thc _ _ hz).len
theorem sW_len {pl:List Int} {N:Int} {m:Option DS} (h:SOk pl N m) (z:Int):(rdsF (sW m z)).length≤65535∧(wrsF (sW m z)).length≤65535:=by
  cases m with
  | none=>exact ⟨Nat.zero_le _,Nat.zero_le _⟩
  | some x =>
    obtain ⟨h1,-⟩:=h x rfl
    show (rdsF (wF x z)).length≤_∧(wrsF (wF x z)).length≤_
    cases hz:wF x z with
    | none=>exact ⟨Nat.zero_le _,Nat.zero_le _⟩
    | some w =>
      unfold wF at hz
      split at hz
      · obtain ⟨a,b⟩:=h1.vs w (List.mem_of_getElem? hz)
        exact ⟨a.len,b.len⟩
      · cases hz
theorem sFl_len {pl:List Int} {N:Int} {m:Option DS} (h:SOk pl N m):(sFl m).length≤65535:=by
  cases m with
  | none=>exact Nat.zero_le _
  | some x =>
    obtain ⟨h1,-⟩:=h x rfl
    have h2:=flF_len x.vs
    have h3:=h1.len
    have h4:=h1.v.ck.sh.va
    show (flF x.vs).length≤_
    omega
theorem keeps_spec (b:Nat) (o0 o1 r0 r1:Option Addr) (B:BK) (n_:Nat) (hB:BOk n_ B) (hn_:n_≤3999990) (xs ys:List Int) (ao bo:Option Addr) (c d:Nat) (hx:xs.length≤65535):Spec Tryz.prog 50 [.pointer (some ⟨b,0,none⟩),.slice ao xs.length c,.slice bo ys.length d] [tabR b o0 o1 r0 r1 B,own 1 encU ao c xs,own 1 encU bo d ys] (fun (_:Unit)=>.bool (decide (xs=ys))) (fun _=>True) (fun _=>[tabR b o0 o1 r0 r1 (⟨(B.C++[(ao,c,xs)]),(B.W++[(bo,d,ys)]),B.F,B.G⟩)]):=by
 refine kQ (n:=30) Tryz.func50 rfl rfl rfl ?_
 intro Γ w0
 simp only [argE,Ca,Na,Zd,Nat.reduceAdd]
 obtain ⟨hbl1,hbl2⟩:=bok_len hB
 have hbl3:=hB.cn
 have hbl4:=hB.fn
 refine qL (qC (.q 0 (.done)) Kr ?_)
 refine qS rfl rfl rfl rfl (qR (qQ (qL (tab_open (b:=b) (B:=B) Tk fun ca cc wa wc fa fc ga gc=>?_))))
 refine qC (.q 0 (.q 1 (.q 2 (.q 3 (.q 4 (.q 5 ((.l 6 [] ((.l 7 [] (.q 8 (.q 9 ((.l 10 [] (.done))))))))))))))) Kr ?_
 refine qK rfl rfl rfl rfl (qK rfl rfl rfl rfl (qX rfl rfl rfl rfl (qG (k:=4) rfl rfl rfl rfl υ'39 rfl ζ'36 rfl ?_)))
 refine qP (j:=4) rfl rfl rfl rfl α'36 Tk Az (by rfl) ?_
 refine qK rfl rfl rfl rfl (cL rfl rfl rfl rfl (sQ (us:=[_]) υ'36 ζ'65 rfl Tryz.zeroValue65 rfl rfl rfl) ?_)
 intro b13
 refine qV (sG (sz:=1) (enc:=encH) (xs:=B.C) rfl rfl rfl rfl rfl υ'36 Tryz.typeInfo65 rfl rfl rfl (by decide) Tk Tk (by first | rfl | omega | (simp;done) | (simp;omega)) (ys:=[((ao,c,xs):LstA Int)]) (sX sS) (by rfl) (by first | rfl | omega) (sB) (encH_one) Om (by show _*24≤_;omega) ?_)
 intro ao14 cp14
 refine qV (qX rfl rfl rfl rfl (qG (k:=4) rfl rfl rfl rfl υ'39 rfl ζ'36 rfl ?_))
 refine kH (j:=4) rfl rfl rfl rfl ζ'36 (us:=[_]) rfl rfl rfl Tk Az (by first | decide | (simp;done) | omega) ?_
 simp only [setL,List.set]
 refine qV (qR (qW [0,1,2] (e':=[(0,_),(1,_),(2,_)]) rfl ?_))
 refine qQ (qL (qC (.q 0 (.q 1 (.q 2 (.q 3 (.q 4 (.q 5 ((.l 6 [] ((.l 7 [] (.q 8 (.q 9 ((.l 10 [] (.done))))))))))))))) Kr ?_))
 refine qK rfl rfl rfl rfl (qK rfl rfl rfl rfl (qX rfl rfl rfl rfl (qG (k:=5) rfl rfl rfl rfl υ'39 rfl ζ'36 rfl ?_)))
 refine qP (j:=5) rfl rfl rfl rfl α'36 Tk Az (by rfl) ?_
 refine qK rfl rfl rfl rfl (cL rfl rfl rfl rfl (sQ (us:=[_]) υ'36 ζ'65 rfl Tryz.zeroValue65 rfl rfl rfl) ?_)
 intro b23
 refine qV (sG (sz:=1) (enc:=encH) (xs:=B.W) rfl rfl rfl rfl rfl υ'36 Tryz.typeInfo65 rfl rfl rfl (by decide) Tk Tk (by first | rfl | omega | (simp;done) | (simp;omega)) (ys:=[((bo,d,ys):LstA Int)]) (sX sS) (by rfl) (by first | rfl | omega) (sB) (encH_one) Om (by show _*24≤_;omega) ?_)
 intro ao24 cp24
 refine qV (qX rfl rfl rfl rfl (qG (k:=5) rfl rfl rfl rfl υ'39 rfl ζ'36 rfl ?_))
 refine kH (j:=5) rfl rfl rfl rfl ζ'36 (us:=[_]) rfl rfl rfl Tk Az (by first | decide | (simp;done) | omega) ?_
 simp only [setL,List.set]
 refine qV (qR (qW [1,2] (e':=[(1,_),(2,_)]) rfl ?_))
 refine qQ (qL (qC (.q 0 (.q 1 ((.l 2 [] (.q 3 (.done)))))) Kr ?_))
 refine qK rfl rfl rfl rfl (qK rfl rfl rfl rfl (cS (A:=own 1 encU ao c xs) Tk ?_))
 refine own_fc fun f_1a f_1b f_1c=>?_
 refine cS (A:=own 1 encU bo d ys) Tk ?_
 refine own_fc fun f_2a f_2b f_2c=>?_
 refine cQ (fun _ h=>Bun.fold ((by (repeat ((with_reducible apply Z2);focus (first | (with_reducible (repeat (first | exact Z0 | apply Z1));done) | (repeat (first | exact Z0 | apply Z1)))));exact Z3:Takes _ [own 1 encU ao c xs,own 1 encU bo d ys] _) _ h)) ?_
 have sp_3:=same_spec xs ys ao bo xs.length ys.length c d (Bun [own 1 encU ao c xs,own 1 encU bo d ys]) Ln (rds_bun (List.mem_cons_self) (rR encU_len (fun h=>(f_1b h).1) f_1c)) Ln (rds_bun (List.mem_cons_of_mem _ (List.mem_cons_self)) (rR encU_len (fun h=>(f_2b h).1) f_2c)) Om
 refine qM rfl rfl rfl rfl rfl rfl Tryz.call14 (sp_3) Ts ?_
 rintro ⟨⟩ -
 try simp only [Ca,Na]
 refine cS (A:=Bun [own 1 encU ao c xs,own 1 encU bo d ys]) Tk ?_
 refine s_bun ?_
 try simp only [Ca,Na]
 try simp only [Ca,Na]
 refine qV (qS rfl rfl rfl rfl (qR (qW [6] (e':=[(6,_)]) rfl ?_)))
 refine qQ (qJ (s_big_push (f:=owA 1 encU) (L:=B.C) (x:=(ao,c,xs)) Ts ?_))
 refine s_big_push (f:=owA 1 encU) (L:=B.W) (x:=(bo,d,ys)) Ts ?_
 refine tab_fold (b:=b) (o0:=o0) (o1:=o1) (r0:=r0) (r1:=r1) (C:=(B.C++[(ao,c,xs)])) (W:=(B.W++[(bo,d,ys)])) (F:=B.F) (G:=B.G) (ca:=ao14) (cc:=cp14) (wa:=ao24) (wc:=cp24) (fa:=fa) (fc:=fc) (ga:=ga) (gc:=gc) Ts (by first | rfl | simp) (by first | rfl | simp) (by first | rfl | simp) (by first | rfl | simp) ?_
 refine kD rfl rfl (()) (by first | rfl | (first | rfl | (congr 1;done) | (congr 1 <;> first | rfl | omega | (simp;done) | (simp;omega)))) (by trivial) ?_
 exact Tf
theorem tells_spec (b:Nat) (o0 o1 r0 r1:Option Addr) (B:BK) (n_:Nat) (hB:BOk n_ B) (hn_:n_≤3999990) (pa:Option Addr) (pc:Nat) (po:Option Addr) (poc:Nat) (ra:Option Addr) (rc:Nat) (o r:Option Addr) (m:Option DS) (pl:List Int) (N:Int) (hN:N≤2000000000000) (hm:SOk pl N m) (kd on k t u z:Int) (eo:Option Addr) (en ec:Nat):Spec Tryz.prog 22 [.pointer (some ⟨b,0,none⟩),.agg #[.int .i64 kd,.int .i64 on,.int .i64 k,.int .i64 t,.int .i64 u,.slice eo en ec,.int .i64 z],.pointer o,.pointer r] [tabR b o0 o1 r0 r1 B,ownP pa pc po poc o m,refP ra rc r m] (fun (B2:BK)=>.bool true) (fun B2=>BOk (n_+1) B2) (fun B2=>[tabR b o0 o1 r0 r1 B2,ownP pa pc po poc o m,refP ra rc r m]):=by
 refine kQ (n:=152) Tryz.func22 rfl rfl rfl ?_
 intro Γ w0
 simp only [argE,Ca,Na,Zd,Nat.reduceAdd]
 obtain ⟨hbl1,hbl2⟩:=bok_len hB
 have hbl3:=hB.cn
 have hbl4:=hB.fn
 refine qL (qC ((.l 0 [] (.q 1 (.done)))) Kr ?_)
 refine sP rfl rfl rfl rfl (us:=[_,_,_,_,_,_,_]) rfl ?_
 intro b5
 refine qV (qS rfl rfl rfl rfl (qR (qQ (qL (qL (qC (.q 0 (.q 1 (.done))) Kr ?_))))))
 refine qG (k:=0) rfl rfl rfl rfl υ'50 rfl ζ'3 rfl ?_
 refine qP (j:=0) rfl rfl rfl rfl α'3 Tk Az (by rfl) ?_
 refine qR (qQ (kC (qL (qC (.q 0 (.q 1 (.done))) Kr ?_))))
 refine qB rfl rfl rfl rfl rfl (cP _ _ _ _) ?_
 refine qS rfl rfl rfl rfl (qR (qW [0,2,3,5,24,25] (e':=[(0,_),(2,_),(3,_),(5,_),(24,_),(25,_)]) rfl ?_))
 refine qQ ?_
 refine qD rfl (fun h2_=>?_) (fun h2_=>?_)
 ·
  refine qL (qC (.q 0 ((.l 1 [] (.q 2 (.done))))) Kr ?_)
  refine qK rfl rfl rfl rfl ?_
  have sp_1:=own_fl pa pc po poc o m pl N hN hm 
  refine qM rfl rfl rfl rfl rfl rfl Tryz.call13 (sp_1) Ts ?_
  rintro ⟨xa,xc⟩ -
  try simp only [Ca,Na]
  refine qV (qS rfl rfl rfl rfl (qR (qW [0,2,3,5,9] (e':=[(0,_),(2,_),(3,_),(5,_),(9,_)]) rfl ?_)))
  refine qQ (qL (qC (.q 0 ((.l 1 [] (.q 2 (.done))))) Kr ?_))
  refine qK rfl rfl rfl rfl ?_
  have sp_2:=ref_fl ra rc r m pl N hN hm 
  refine qM rfl rfl rfl rfl rfl rfl Tryz.call45 (sp_2) Ts ?_
  rintro ⟨ya,yc⟩ -
  try simp only [Ca,Na]
  refine qV (qS rfl rfl rfl rfl (qR (qQ (qL (qC (.q 0 (.q 1 (.q 2 ((.l 3 [] (.q 4 (.q 5 (.q 6 (.q 7 (.q 8 (.done))))))))))) Kr ?_)))))
  refine qK rfl rfl rfl rfl (qG (k:=6) rfl rfl rfl rfl υ'50 rfl ζ'3 rfl ?_)
  refine qP (j:=6) rfl rfl rfl rfl α'3 Tk Az (by rfl) ?_
  have sp_3:=own_fd pa pc po poc o m pl N hN hm z
  refine qM rfl rfl rfl rfl rfl rfl Tryz.call46 (sp_3) Ts ?_
  rintro ⟨⟩ -
  try simp only [Ca,Na]
  refine qV (qK rfl rfl rfl rfl (kY rfl rfl rfl rfl rfl (kY rfl rfl rfl rfl rfl (qS rfl rfl rfl rfl (qS rfl rfl rfl rfl (qR (qW [0,3,5,9,10,11,12] (e':=[(0,_),(3,_),(5,_),(9,_),(10,_),(11,_),(12,_)]) rfl ?_)))))))
  refine qQ (qL (qC (.q 0 (.q 1 (.q 2 ((.l 3 [] (.q 4 (.q 5 (.q 6 (.q 7 (.q 8 (.done))))))))))) Kr ?_))
  refine qK rfl rfl rfl rfl (qG (k:=6) rfl rfl rfl rfl υ'50 rfl ζ'3 rfl ?_)
  refine qP (j:=6) rfl rfl rfl rfl α'3 Tk Az (by rfl) ?_
  have sp_4:=ref_fd ra rc r m pl N hN hm z
  refine qM rfl rfl rfl rfl rfl rfl Tryz.call47 (sp_4) Ts ?_
  rintro ⟨⟩ -
  try simp only [Ca,Na]
  refine qV (qK rfl rfl rfl rfl (kY rfl rfl rfl rfl rfl (kY rfl rfl rfl rfl rfl (qS rfl rfl rfl rfl (qS rfl rfl rfl rfl (qR (qW [0,9,10,11,12,13,14] (e':=[(0,_),(9,_),(10,_),(11,_),(12,_),(13,_),(14,_)]) rfl ?_)))))))
  refine qQ (qL (tab_open (b:=b) (B:=B) Tk fun ca cc wa wc fa fc ga gc=>?_))
  refine qC (.q 0 (.q 1 (.q 2 (.q 3 (.q 4 (.q 5 ((.l 6 [] ((.l 7 [] (.q 8 (.q 9 ((.l 10 [] (.done))))))))))))))) Kr ?_
  refine qK rfl rfl rfl rfl (qK rfl rfl rfl rfl (qX rfl rfl rfl rfl (qG (k:=6) rfl rfl rfl rfl υ'39 rfl ζ'37 rfl ?_)))
  refine qP (j:=6) rfl rfl rfl rfl α'37 Tk Az (by rfl) ?_
  refine qK rfl rfl rfl rfl (cL rfl rfl rfl rfl (sQ (us:=[_]) υ'37 ζ'60 rfl Tryz.zeroValue60 rfl rfl rfl) ?_)
  intro b51
  refine qV (sG (sz:=1) (enc:=encH) (xs:=B.F) rfl rfl rfl rfl rfl υ'37 Tryz.typeInfo60 rfl rfl rfl (by decide) Tk Tk (by first | rfl | omega | (simp;done) | (simp;omega)) (ys:=[((xa,xc,sFl m):LstA T2)]) (sX sS) (by rfl) (by first | rfl | omega) (sB) (encH_one) Om (by show _*24≤_;omega) ?_)
  intro ao52 cp52
  refine qV (qX rfl rfl rfl rfl (qG (k:=6) rfl rfl rfl rfl υ'39 rfl ζ'37 rfl ?_))
  refine kH (j:=6) rfl rfl rfl rfl ζ'37 (us:=[_]) rfl rfl rfl Tk Az (by first | decide | (simp;done) | omega) ?_
  simp only [setL,List.set]
  refine qV (qR (qW [0,9,10,11,12,13,14] (e':=[(0,_),(9,_),(10,_),(11,_),(12,_),(13,_),(14,_)]) rfl ?_))
  refine qQ (qL (qC (.q 0 (.q 1 (.q 2 (.q 3 (.q 4 (.q 5 ((.l 6 [] ((.l 7 [] (.q 8 (.q 9 ((.l 10 [] (.done))))))))))))))) Kr ?_))
  refine qK rfl rfl rfl rfl (qK rfl rfl rfl rfl (qX rfl rfl rfl rfl (qG (k:=7) rfl rfl rfl rfl υ'39 rfl ζ'37 rfl ?_)))
  refine qP (j:=7) rfl rfl rfl rfl α'37 Tk Az (by rfl) ?_
  refine qK rfl rfl rfl rfl (cL rfl rfl rfl rfl (sQ (us:=[_]) υ'37 ζ'60 rfl Tryz.zeroValue60 rfl rfl rfl) ?_)
  intro b61
  refine qV (sG (sz:=1) (enc:=encH) (xs:=B.G) rfl rfl rfl rfl rfl υ'37 Tryz.typeInfo60 rfl rfl rfl (by decide) Tk Tk (by first | rfl | omega | (simp;done) | (simp;omega)) (ys:=[((ya,yc,sFl m):LstA T2)]) (sX sS) (by rfl) (by first | rfl | omega) (sB) (encH_one) Om (by show _*24≤_;omega) ?_)
  intro ao62 cp62
  refine qV (qX rfl rfl rfl rfl (qG (k:=7) rfl rfl rfl rfl υ'39 rfl ζ'37 rfl ?_))
  refine kH (j:=7) rfl rfl rfl rfl ζ'37 (us:=[_]) rfl rfl rfl Tk Az (by first | decide | (simp;done) | omega) ?_
  simp only [setL,List.set]
  refine qV (qR (qW [9,10,11,12,13,14] (e':=[(9,_),(10,_),(11,_),(12,_),(13,_),(14,_)]) rfl ?_))
  refine qQ (qL ?_)
  have hfl_:=sFl_len hm
  refine qC (.q 0 (.q 1 ((.l 2 [] (.q 3 (.q 4 (.q 5 (.q 6 (.q 7 (.q 8 (.q 9 (.q 10 (.q 11 (.q 12 (.q 13 (.done)))))))))))))))) Kr ?_
  refine qK rfl rfl rfl rfl (qK rfl rfl rfl rfl (cS (A:=own 2 enc2 xa xc (sFl m)) Tk ?_))
  refine own_fc fun f_5a f_5b f_5c=>?_
  refine cS (A:=own 2 enc2 ya yc (sFl m)) Tk ?_
  refine own_fc fun f_6a f_6b f_6c=>?_
  refine cQ (fun _ h=>Bun.fold ((by (repeat ((with_reducible apply Z2);focus (first | (with_reducible (repeat (first | exact Z0 | apply Z1));done) | (repeat (first | exact Z0 | apply Z1)))));exact Z3:Takes _ [own 2 enc2 xa xc (sFl m),own 2 enc2 ya yc (sFl m)] _) _ h)) ?_
  have sp_7:=flags_same (sFl m) (sFl m) xa ya ((sFl m).length) ((sFl m).length) xc yc (Bun [own 2 enc2 xa xc (sFl m),own 2 enc2 ya yc (sFl m)]) Ln (rds_bun (List.mem_cons_self) (rR enc2_len (fun h=>(f_5b h).1) f_5c)) Ln (rds_bun (List.mem_cons_of_mem _ (List.mem_cons_self)) (rR enc2_len (fun h=>(f_6b h).1) f_6c)) Om
  refine qM rfl rfl rfl rfl rfl rfl Tryz.call12 (sp_7) Ts ?_
  rintro ⟨⟩ -
  try simp only [Ca,Na]
  refine cS (A:=Bun [own 2 enc2 xa xc (sFl m),own 2 enc2 ya yc (sFl m)]) Tk ?_
  refine s_bun ?_
  try simp only [Ca,Na]
  try simp only [Ca,Na]
  refine qV (kB 67 rfl (v':=.bool true) (by first | (rw [decide_eq_true rfl];done) | simp) ?_)
  refine qK rfl rfl rfl rfl (qK rfl rfl rfl rfl (qK rfl rfl rfl rfl (qB rfl rfl rfl rfl rfl (cP _ _ _ _) ?_)))
  refine kB 71 rfl (v':=.bool true) (by first | (rw [decide_eq_true rfl];done) | simp) ?_
  refine kW rfl rfl rfl rfl rfl (qK rfl rfl rfl rfl (qK rfl rfl rfl rfl (qK rfl rfl rfl rfl (q_eqb rfl rfl rfl rfl rfl υ'4 ?_))))
  refine kB 76 rfl (v':=.bool true) (by first | (rw [decide_eq_true rfl];done) | simp) ?_
  refine kW rfl rfl rfl rfl rfl (qS rfl rfl rfl rfl (qR (qW [8] (e':=[(8,_)]) rfl ?_)))
  refine qQ (qJ (kM (qN (s_big_push (f:=owA 2 enc2) (L:=B.F) (x:=(xa,xc,sFl m)) Ts ?_))))
  refine s_big_push (f:=owA 2 enc2) (L:=B.G) (x:=(ya,yc,sFl m)) Ts ?_
  refine tab_fold (b:=b) (o0:=o0) (o1:=o1) (r0:=r0) (r1:=r1) (C:=B.C) (W:=B.W) (F:=(B.F++[(xa,xc,sFl m)])) (G:=(B.G++[(ya,yc,sFl m)])) (ca:=ca) (cc:=cc) (wa:=wa) (wc:=wc) (fa:=ao52) (fc:=cp52) (ga:=ao62) (gc:=cp62) Ts (by first | rfl | simp) (by first | rfl | simp) (by first | rfl | simp) (by first | rfl | simp) ?_
  refine kD rfl rfl (⟨B.C,B.W,(B.F++[(xa,xc,sFl m)]),(B.G++[(ya,yc,sFl m)])⟩) (by first | rfl | (first | rfl | (congr 1;done) | (congr 1 <;> first | rfl | omega | (simp;done) | (simp;omega)))) (by exact bok_f hB rfl (sFl_len hm)) ?_
  exact Tf
 refine qL (qC (.q 0 (.q 1 (.done))) Kr ?_)
 refine qB rfl rfl rfl rfl rfl (cP _ _ _ _) ?_
 refine qS rfl rfl rfl rfl (qR (qQ ?_))
 refine qD rfl (fun h3_=>?_) (fun h3_=>?_)
 ·
  refine qL (qC (.q 0 (.q 1 (.q 2 ((.l 3 [] (.q 4 (.q 5 (.q 6 (.q 7 (.q 8 (.done))))))))))) Kr ?_)
  refine qK rfl rfl rfl rfl (qG (k:=6) rfl rfl rfl rfl υ'50 rfl ζ'3 rfl ?_)
  refine qP (j:=6) rfl rfl rfl rfl α'3 Tk Az (by rfl) ?_
  have sp_8:=own_re pa pc po poc o m pl N hN hm z
  refine qM rfl rfl rfl rfl rfl rfl Tryz.call48 (sp_8) Ts ?_
  rintro ⟨xa,xc⟩ -
  try simp only [Ca,Na]
  refine qV (qK rfl rfl rfl rfl (kY rfl rfl rfl rfl rfl (kY rfl rfl rfl rfl rfl (qS rfl rfl rfl rfl (qS rfl rfl rfl rfl (qR (qW [0,3,5,15,16] (e':=[(0,_),(3,_),(5,_),(15,_),(16,_)]) rfl ?_)))))))
  refine qQ (qL (qC (.q 0 (.q 1 (.q 2 ((.l 3 [] (.q 4 (.q 5 (.q 6 (.q 7 (.q 8 (.done))))))))))) Kr ?_))
  refine qK rfl rfl rfl rfl (qG (k:=6) rfl rfl rfl rfl υ'50 rfl ζ'3 rfl ?_)
  refine qP (j:=6) rfl rfl rfl rfl α'3 Tk Az (by rfl) ?_
  have sp_9:=ref_re ra rc r m pl N hN hm z
  refine qM rfl rfl rfl rfl rfl rfl Tryz.call49 (sp_9) Ts ?_
  rintro ⟨ya,yc⟩ -
  try simp only [Ca,Na]
  refine qV (qK rfl rfl rfl rfl (kY rfl rfl rfl rfl rfl (kY rfl rfl rfl rfl rfl (qS rfl rfl rfl rfl (qS rfl rfl rfl rfl (qR (qW [0,15,16,17,18] (e':=[(0,_),(15,_),(16,_),(17,_),(18,_)]) rfl ?_)))))))
  refine qQ (qL (qC (.q 0 (.q 1 (.q 2 (.q 3 (.q 4 (.q 5 (.q 6 ((.l 7 [] (.q 8 (.q 9 (.done)))))))))))) Kr ?_))
  refine qK rfl rfl rfl rfl (qK rfl rfl rfl rfl (q_eqb rfl rfl rfl rfl rfl υ'4 ?_))
  refine kB 96 rfl (v':=.bool true) (by first | (rw [decide_eq_true rfl];done) | simp) ?_
  refine qK rfl rfl rfl rfl (qK rfl rfl rfl rfl (qK rfl rfl rfl rfl (qK rfl rfl rfl rfl ?_)))
  have sp_10:=keeps_spec b o0 o1 r0 r1 B n_ hB hn_ (rdsF (sW m z)) (rdsF (sW m z)) xa ya xc yc (by exact (sW_len hm z).1)
  refine qM rfl rfl rfl rfl rfl rfl Tryz.call50 (sp_10) Ts ?_
  rintro ⟨⟩ -
  try simp only [Ca,Na]
  refine qV (kB 101 rfl (v':=.bool true) (by first | (rw [decide_eq_true rfl];done) | simp) ?_)
  refine kW rfl rfl rfl rfl rfl (qS rfl rfl rfl rfl (qR (qW [8] (e':=[(8,_)]) rfl ?_)))
  refine qQ (qJ (kM (qN (kD rfl rfl (⟨B.C++[(xa,xc,rdsF (sW m z))],B.W++[(ya,yc,rdsF (sW m z))],B.F,B.G⟩) (by first | rfl | (first | rfl | (congr 1;done) | (congr 1 <;> first | rfl | omega | (simp;done) | (simp;omega)))) (by exact bok_c hB rfl (sW_len hm z).1) ?_))))
  exact Tf
 refine qL (qC (.q 0 (.q 1 (.done))) Kr ?_)
 refine qB rfl rfl rfl rfl rfl (cP _ _ _ _) ?_
 refine qS rfl rfl rfl rfl (qR (qW [0,2,3,5,24,103] (e':=[(0,_),(2,_),(3,_),(5,_),(24,_),(103,_)]) rfl ?_))
 refine qQ ?_
 refine qD rfl (fun h4_=>?_) (fun h4_=>?_)
 ·
  refine qL (qC (.q 0 (.q 1 (.q 2 ((.l 3 [] (.q 4 (.q 5 (.q 6 (.q 7 (.q 8 (.done))))))))))) Kr ?_)
  refine qK rfl rfl rfl rfl (qG (k:=6) rfl rfl rfl rfl υ'50 rfl ζ'3 rfl ?_)
  refine qP (j:=6) rfl rfl rfl rfl α'3 Tk Az (by rfl) ?_
  have sp_11:=own_wr pa pc po poc o m pl N hN hm z
  refine qM rfl rfl rfl rfl rfl rfl Tryz.call51 (sp_11) Ts ?_
  rintro ⟨xa,xc⟩ -
  try simp only [Ca,Na]
  refine qV (qK rfl rfl rfl rfl (kY rfl rfl rfl rfl rfl (kY rfl rfl rfl rfl rfl (qS rfl rfl rfl rfl (qS rfl rfl rfl rfl (qR (qW [0,3,5,19,20] (e':=[(0,_),(3,_),(5,_),(19,_),(20,_)]) rfl ?_)))))))
  refine qQ (qL (qC (.q 0 (.q 1 (.q 2 ((.l 3 [] (.q 4 (.q 5 (.q 6 (.q 7 (.q 8 (.done))))))))))) Kr ?_))
  refine qK rfl rfl rfl rfl (qG (k:=6) rfl rfl rfl rfl υ'50 rfl ζ'3 rfl ?_)
  refine qP (j:=6) rfl rfl rfl rfl α'3 Tk Az (by rfl) ?_
  have sp_12:=ref_wr ra rc r m pl N hN hm z
  refine qM rfl rfl rfl rfl rfl rfl Tryz.call52 (sp_12) Ts ?_
  rintro ⟨ya,yc⟩ -
  try simp only [Ca,Na]
  refine qV (qK rfl rfl rfl rfl (kY rfl rfl rfl rfl rfl (kY rfl rfl rfl rfl rfl (qS rfl rfl rfl rfl (qS rfl rfl rfl rfl (qR (qW [0,19,20,21,22] (e':=[(0,_),(19,_),(20,_),(21,_),(22,_)]) rfl ?_)))))))
  refine qQ (qL (qC (.q 0 (.q 1 (.q 2 (.q 3 (.q 4 (.q 5 (.q 6 ((.l 7 [] (.q 8 (.q 9 (.done)))))))))))) Kr ?_))
  refine qK rfl rfl rfl rfl (qK rfl rfl rfl rfl (q_eqb rfl rfl rfl rfl rfl υ'4 ?_))
  refine kB 121 rfl (v':=.bool true) (by first | (rw [decide_eq_true rfl];done) | simp) ?_
  refine qK rfl rfl rfl rfl (qK rfl rfl rfl rfl (qK rfl rfl rfl rfl (qK rfl rfl rfl rfl ?_)))
  have sp_13:=keeps_spec b o0 o1 r0 r1 B n_ hB hn_ (wrsF (sW m z)) (wrsF (sW m z)) xa ya xc yc (by exact (sW_len hm z).2)
  refine qM rfl rfl rfl rfl rfl rfl Tryz.call50 (sp_13) Ts ?_
  rintro ⟨⟩ -
  try simp only [Ca,Na]
  refine qV (kB 126 rfl (v':=.bool true) (by first | (rw [decide_eq_true rfl];done) | simp) ?_)
  refine kW rfl rfl rfl rfl rfl (qS rfl rfl rfl rfl (qR (qW [8] (e':=[(8,_)]) rfl ?_)))
  refine qQ (qJ (kM (qN (kD rfl rfl (⟨B.C++[(xa,xc,wrsF (sW m z))],B.W++[(ya,yc,wrsF (sW m z))],B.F,B.G⟩) (by first | rfl | (first | rfl | (congr 1;done) | (congr 1 <;> first | rfl | omega | (simp;done) | (simp;omega)))) (by exact bok_c hB rfl (sW_len hm z).2) ?_))))
  exact Tf
 refine qL (qC (.q 0 (.q 1 (.done))) Kr ?_)
 refine qB rfl rfl rfl rfl rfl (cP _ _ _ _) ?_
 refine qS rfl rfl rfl rfl (qR (qQ ?_))
 refine qD rfl (fun h5_=>?_) (fun h5_=>?_)
 ·
  refine qL (kL rfl (.q 0 (.q 1 (.q 2 (.q 3 (.q 5 (.q 6 (.q 7 ((.l 4 [7] ((.l 8 [] ((.l 9 [] (.q 10 (.done))))))))))))))) Kr ?_)
  refine qK rfl rfl rfl rfl (qK rfl rfl rfl rfl (qG (k:=6) rfl rfl rfl rfl υ'50 rfl ζ'3 rfl ?_))
  refine qP (j:=6) rfl rfl rfl rfl α'3 Tk Az (by rfl) ?_
  refine qK rfl rfl rfl rfl (qG (k:=6) rfl rfl rfl rfl υ'50 rfl ζ'3 rfl ?_)
  refine qP (j:=6) rfl rfl rfl rfl α'3 Tk Az (by rfl) ?_
  have sp_14:=own_ve pa pc po poc o m pl N hN hm z
  refine qM rfl rfl rfl rfl rfl rfl Tryz.call15 (sp_14) Ts ?_
  rintro ⟨xa,xc⟩ -
  try simp only [Ca,Na]
  refine qH (q:=6) rfl rfl rfl α'3 Tk Az (by rfl) ?_
  refine qV ?_
  have sp_15:=ref_ve ra rc r m pl N hN hm z
  refine qM rfl rfl rfl rfl rfl rfl Tryz.call53 (sp_15) Ts ?_
  rintro ⟨ya,yc⟩ -
  try simp only [Ca,Na]
  refine qV ?_
  have sp_16:=keeps_spec b o0 o1 r0 r1 B n_ hB hn_ (sV m z) (sV m z) xa ya xc yc (by exact sV_len hm z)
  refine qM rfl rfl rfl rfl rfl rfl Tryz.call50 (sp_16) Ts ?_
  rintro ⟨⟩ -
  try simp only [Ca,Na]
  refine qV (kB 139 rfl (v':=.bool true) (by first | (rw [decide_eq_true rfl];done) | simp) ?_)
  refine qS rfl rfl rfl rfl (qR (qW [8] (e':=[(8,_)]) rfl ?_))
  refine qQ (qJ (kM (qN (kD rfl rfl (⟨B.C++[(xa,xc,sV m z)],B.W++[(ya,yc,sV m z)],B.F,B.G⟩) (by first | rfl | (first | rfl | (congr 1;done) | (congr 1 <;> first | rfl | omega | (simp;done) | (simp;omega)))) (by exact bok_c hB rfl (sV_len hm z)) ?_))))
  exact Tf
 refine qF (kX (qQ (qL (qC (.q 0 ((.l 1 [] (.q 2 ((.l 3 [] (.q 4 (.q 5 (.q 6 ((.l 7 [] (.q 8 ((.l 9 [] (.q 10 (.q 11 (.q 12 (.done)))))))))))))))))) Kr ?_))))
 refine qK rfl rfl rfl rfl ?_
 have sp_17:=own_le pa pc po poc o m pl N hN hm 
 refine qM rfl rfl rfl rfl rfl rfl Tryz.call54 (sp_17) Ts ?_
 rintro ⟨⟩ -
 try simp only [Ca,Na]
 refine qV (qK rfl rfl rfl rfl ?_)
 have sp_18:=ref_le ra rc r m pl N hN hm 
 refine qM rfl rfl rfl rfl rfl rfl Tryz.call55 (sp_18) Ts ?_
 rintro ⟨⟩ -
 try simp only [Ca,Na]
 refine qV (qB rfl rfl rfl rfl rfl (cP _ _ _ _) ?_)
 refine kB 144 rfl (v':=.bool true) (by first | (rw [decide_eq_true rfl];done) | simp) ?_
 refine qK rfl rfl rfl rfl (qK rfl rfl rfl rfl ?_)
 have sp_19:=own_co pa pc po poc o m pl N hN hm 
 refine qM rfl rfl rfl rfl rfl rfl Tryz.call56 (sp_19) Ts ?_
 rintro ⟨⟩ -
 try simp only [Ca,Na]
 refine qV (qK rfl rfl rfl rfl ?_)
 have sp_20:=ref_co ra rc r m pl N hN hm 
 refine qM rfl rfl rfl rfl rfl rfl Tryz.call57 (sp_20) Ts ?_
 rintro ⟨⟩ -
 try simp only [Ca,Na]
 refine qV (qB rfl rfl rfl rfl rfl (cP _ _ _ _) ?_)
 refine kB 150 rfl (v':=.bool true) (by first | (rw [decide_eq_true rfl];done) | simp) ?_
 refine kW rfl rfl rfl rfl rfl (qS rfl rfl rfl rfl (qR (qW [8] (e':=[(8,_)]) rfl ?_)))
 refine qQ (qJ (kD rfl rfl (B) (by first | rfl | (first | rfl | (congr 1;done) | (congr 1 <;> first | rfl | omega | (simp;done) | (simp;omega)))) (by exact bok_more hB Om) ?_))
 exact Tf
end Go.Ab.Rv
set_option linter.unusedVariables false
set_option linter.unusedSimpArgs false
set_option maxRecDepth 100000
namespace Go.Ab.Rv
open Go Go.Proofs Go.Ab Go.Ab.Fe Go.Ab.Vc Go.Ab.Dj
def wmC (i k:Nat):Int:=(i:Int)+1000
def wmF (i k:Nat):T2:=(-(i:Int) - 1,0)
theorem app_set {α:Type} {A B:List α} {k:Nat} (q:α) (h:A.length=k) (hk:k < B.length):(A++B.drop k).set k q=(A++[q])++B.drop (k+1):=by
  subst h
  rw [List.set_append_right _ _ (Nat.le_refl _),Nat.sub_self,List.drop_eq_getElem_cons hk,List.set_cons_zero,List.append_assoc]
  rfl
theorem app_get {α:Type} {A B:List α} {k:Nat} (h:A.length=k):(A++B.drop k)[k]?=B[k]?:=by
  subst h
  rw [List.getElem?_append_right (Nat.le_refl _),Nat.sub_self,List.getElem?_drop];rfl
theorem mk2_all {α:Type} {f:Nat→Nat→α} {p n m k:Nat} (hf:∀ k,f p k=f p 0) (h:k < n+m):(mks (f p) n++mks (f p) m)[k]?=some (f p k):=by
  rcases Nat.lt_or_ge k n with h1 | h1
  · exact mk2_lo h1
  · rw [mk2_hi h1 h,hf k,hf (k - n)]
theorem apart_spec (b n:Nat) (o0 o1 r0 r1:Option Addr) (B:BK) (hB:BOk n B) (hn:n≤4000000):Spec Tryz.prog 7 [.pointer (some ⟨b,0,none⟩)] [tabR b o0 o1 r0 r1 B] (fun (_:Unit)=>.bool true) (fun _=>True) (fun _=>[]):=by
 refine kQ (n:=331) Tryz.func7 rfl rfl rfl ?_
 intro Γ w0
 simp only [argE,Ca,Na,Zd,Nat.reduceAdd]
 obtain ⟨C,W,F,G⟩:=B
 obtain ⟨hmc,hmf,hbc,hbf,hnc0,hnf0⟩:=hB
 simp only at hmc hmf hbc hbf hnc0 hnf0
 have hwl:C.length=W.length:=by simpa using congrArg List.length hmc
 have hgl:F.length=G.length:=by simpa using congrArg List.length hmf
 refine qL (qC (.q 0 (.done)) Kr ?_)
 refine qS rfl rfl rfl rfl (qR (qQ (qL (qL (tab_open (b:=b) (B:=⟨C,W,F,G⟩) Tk fun ca cc wa wc fa fc ga gc=>?_)))))
 dsimp only
 refine qC (.q 0 (.done)) Kr ?_
 refine qS rfl rfl rfl rfl (qR (qQ (kC ?_)))
 refine cH (α:=Nat) (fun (i:Nat)=>i≤C.length) (fun (i:Nat)=>[(3,.int .i64 ((i:Nat):Int))]) (fun (i:Nat)=>[]) (fun (i:Nat)=>C.length - i) [0] (er:=[(0,_)]) rfl (0) ?_ (by exact ⟨rfl,trivial⟩) (by (try dsimp only);(try simp only [Ad,Zd]);(repeat ((with_reducible apply Z2);focus (first | (with_reducible (repeat (first | exact Z0 | apply Z1));done) | (repeat (first | exact Z0 | apply Z1)))));exact Z3) ?_
 · exact Nat.zero_le _
 rintro i hle_i
 try simp only [Ca,Na]
 refine qL (qL (qC (.q 0 (.q 1 (.q 2 (.q 3 (.q 4 (.q 5 (.q 6 (.done)))))))) Kr ?_))
 refine qK rfl rfl rfl rfl (qK rfl rfl rfl rfl (qX rfl rfl rfl rfl (qG (k:=4) rfl rfl rfl rfl υ'39 rfl ζ'36 rfl ?_)))
 refine qP (j:=4) rfl rfl rfl rfl α'36 Tk Az (by rfl) ?_
 refine cJ rfl rfl rfl rfl υ'36 ?_
 refine qB rfl rfl rfl rfl rfl (cB _ _ _ _) ?_
 refine qR (qW [0,3,25] (e':=[(0,_),(3,_),(25,_)]) rfl ?_)
 refine qQ ?_
 refine qD rfl (fun hlt=>?_) (fun hlt=>?_)
 ·
  obtain ⟨⟨a1,c1,x3⟩,hx⟩:=cR (l:=C) (i:=i) Om
  obtain ⟨⟨a2,c2,y3⟩,hy⟩:=cR (l:=W) (i:=i) Om
  have hxb:x3.length≤65535:=hbc _ (List.mem_of_getElem? hx)
  obtain rfl:x3=y3:=same_at hmc hx hy
  refine s_owA (T:=C) Tk hx fun hp1 hp2=>?_
  refine s_owA (T:=W) Tk hy fun hq1 hq2=>?_
  refine qF (qQ (qL (kC (qL (kL rfl (.q 0 (.q 1 (.q 2 (.q 3 (.q 4 (.q 5 (.q 6 (.q 7 (.q 8 (.q 9 (.q 10 (.q 11 (.q 12 (.q 13 ((.l 14 [] (.q 15 (.done)))))))))))))))))) Kr ?_)))))
  refine qK rfl rfl rfl rfl (qX rfl rfl rfl rfl (qG (k:=4) rfl rfl rfl rfl υ'39 rfl ζ'36 rfl ?_))
  refine qP (j:=4) rfl rfl rfl rfl α'36 Tk Az (by rfl) ?_
  refine qK rfl rfl rfl rfl (kF (sz:=0) (k:=i) (enc:=encH) (xs:=C) rfl rfl rfl rfl rfl υ'36 ζ'65 hx (by first | rfl | omega) Om Tk ?_)
  intro ib33 io33 ha33 hl33 hc33
  refine kS (v:=(.slice a1 x3.length c1)) (j:=0) (k':=i) (enc:=encH) (off:=io33) rfl rfl rfl rfl α'65 ha33 sB hx Tk (by first | rfl | exact (Ad _).symm | omega) (by rfl) ?_
  refine qK rfl rfl rfl rfl (qX rfl rfl rfl rfl (qG (k:=5) rfl rfl rfl rfl υ'39 rfl ζ'36 rfl ?_))
  refine qP (j:=5) rfl rfl rfl rfl α'36 Tk Az (by rfl) ?_
  refine qK rfl rfl rfl rfl (kF (sz:=0) (k:=i) (enc:=encH) (xs:=W) rfl rfl rfl rfl rfl υ'36 ζ'65 hy (by first | rfl | omega) Om Tk ?_)
  intro ib40 io40 ha40 hl40 hc40
  refine kS (v:=(.slice a2 x3.length c2)) (j:=0) (k':=i) (enc:=encH) (off:=io40) rfl rfl rfl rfl α'65 ha40 sB hy Tk (by first | rfl | exact (Ad _).symm | omega) (by rfl) ?_
  refine cQ (fun _ h=>Bun.fold ((by (repeat ((with_reducible apply Z2);focus (first | (with_reducible (repeat (first | exact Z0 | apply Z1));done) | (repeat (first | exact Z0 | apply Z1)))));exact Z3:Takes _ [bigS (owA 1 encU) C,bigS (owA 1 encU) W] _) _ h)) ?_
  have sp_1:=same_spec x3 x3 a1 a2 x3.length x3.length c1 c2 (Bun [bigS (owA 1 encU) C,bigS (owA 1 encU) W]) Ln (rds_bun (List.mem_cons_self) (rds_big (f:=owA 1 encU) (List.mem_of_getElem? hx) (rR encU_len hp1 hp2))) Ln (rds_bun (List.mem_cons_of_mem _ (List.mem_cons_self)) (rds_big (f:=owA 1 encU) (List.mem_of_getElem? hy) (rR encU_len hq1 hq2))) Om
  refine qM rfl rfl rfl rfl rfl rfl Tryz.call14 (sp_1) Ts ?_
  rintro ⟨⟩ -
  try simp only [Ca,Na]
  refine cS (A:=Bun [bigS (owA 1 encU) C,bigS (owA 1 encU) W]) Tk ?_
  refine s_bun ?_
  try simp only [Ca,Na]
  try simp only [Ca,Na]
  refine qV (kB 42 rfl (v':=.bool true) (by first | rfl | simp) ?_)
  refine sY rfl rfl rfl rfl ?_
  refine kB 43 rfl (v':=.bool false) rfl ?_
  refine qR (qW [0,3,43] (e':=[(0,_),(3,_),(43,_)]) rfl ?_)
  refine qQ (kZ rfl ?_)
  refine qF (kX (qQ (qC (.q 0 (.q 1 (.q 2 (.done)))) Kr ?_)))
  refine qK rfl rfl rfl rfl (qB rfl rfl rfl rfl rfl (cV _ (by exact kP Om Om)) ?_)
  refine qS rfl rfl rfl rfl (qR (qQ ?_))
  refine kJ (x:=i) (i+1) ?_ ?_ ?_ ?_
  · exact by show i+1≤C.length;omega
  · show C.length - (i+1) < C.length - i;omega
  · exact ⟨rfl,rfl,trivial⟩
  · (try simp only [Ca,Na]);exact Tf
 refine cW (qY (qY (kK (qQ (qL (qL (qC (.q 0 (.done)) Kr ?_)))))))
 refine qS rfl rfl rfl rfl (qR (qQ (kC ?_)))
 refine cH (α:=Nat) (fun (i:Nat)=>i≤F.length) (fun (i:Nat)=>[(4,.int .i64 ((i:Nat):Int))]) (fun (i:Nat)=>[]) (fun (i:Nat)=>F.length - i) [0] (er:=[(0,_)]) rfl (0) ?_ (by exact ⟨rfl,trivial⟩) (by (try dsimp only);(try simp only [Ad,Zd]);(repeat ((with_reducible apply Z2);focus (first | (with_reducible (repeat (first | exact Z0 | apply Z1));done) | (repeat (first | exact Z0 | apply Z1)))));exact Z3) ?_
 · exact Nat.zero_le _
 rintro i hle_i
 try simp only [Ca,Na]
 refine qL (qL (qC (.q 0 (.q 1 (.q 2 (.q 3 (.q 4 (.q 5 (.q 6 (.done)))))))) Kr ?_))
 refine qK rfl rfl rfl rfl (qK rfl rfl rfl rfl (qX rfl rfl rfl rfl (qG (k:=6) rfl rfl rfl rfl υ'39 rfl ζ'37 rfl ?_)))
 refine qP (j:=6) rfl rfl rfl rfl α'37 Tk Az (by rfl) ?_
 refine cJ rfl rfl rfl rfl υ'37 ?_
 refine qB rfl rfl rfl rfl rfl (cB _ _ _ _) ?_
 refine qR (qW [0,4,50] (e':=[(0,_),(4,_),(50,_)]) rfl ?_)
 refine qQ ?_
 refine qD rfl (fun hlt=>?_) (fun hlt=>?_)
 ·
  obtain ⟨⟨a1,c1,x3⟩,hx⟩:=cR (l:=F) (i:=i) Om
  obtain ⟨⟨a2,c2,y3⟩,hy⟩:=cR (l:=G) (i:=i) Om
  have hxb:x3.length≤65535:=hbf _ (List.mem_of_getElem? hx)
  obtain rfl:x3=y3:=same_at hmf hx hy
  refine s_owA (T:=F) Tk hx fun hp1 hp2=>?_
  refine s_owA (T:=G) Tk hy fun hq1 hq2=>?_
  refine qF (qQ (qL (kC (qL (kL rfl (.q 0 (.q 1 (.q 2 (.q 3 (.q 4 (.q 5 (.q 6 (.q 7 (.q 8 (.q 9 (.q 10 (.q 11 (.q 12 (.q 13 ((.l 14 [] (.q 15 (.done)))))))))))))))))) Kr ?_)))))
  refine qK rfl rfl rfl rfl (qX rfl rfl rfl rfl (qG (k:=6) rfl rfl rfl rfl υ'39 rfl ζ'37 rfl ?_))
  refine qP (j:=6) rfl rfl rfl rfl α'37 Tk Az (by rfl) ?_
  refine qK rfl rfl rfl rfl (kF (sz:=0) (k:=i) (enc:=encH) (xs:=F) rfl rfl rfl rfl rfl υ'37 ζ'60 hx (by first | rfl | omega) Om Tk ?_)
  intro ib58 io58 ha58 hl58 hc58
  refine kS (v:=(.slice a1 x3.length c1)) (j:=0) (k':=i) (enc:=encH) (off:=io58) rfl rfl rfl rfl α'60 ha58 sB hx Tk (by first | rfl | exact (Ad _).symm | omega) (by rfl) ?_
  refine qK rfl rfl rfl rfl (qX rfl rfl rfl rfl (qG (k:=7) rfl rfl rfl rfl υ'39 rfl ζ'37 rfl ?_))
  refine qP (j:=7) rfl rfl rfl rfl α'37 Tk Az (by rfl) ?_
  refine qK rfl rfl rfl rfl (kF (sz:=0) (k:=i) (enc:=encH) (xs:=G) rfl rfl rfl rfl rfl υ'37 ζ'60 hy (by first | rfl | omega) Om Tk ?_)
  intro ib65 io65 ha65 hl65 hc65
  refine kS (v:=(.slice a2 x3.length c2)) (j:=0) (k':=i) (enc:=encH) (off:=io65) rfl rfl rfl rfl α'60 ha65 sB hy Tk (by first | rfl | exact (Ad _).symm | omega) (by rfl) ?_
  refine cQ (fun _ h=>Bun.fold ((by (repeat ((with_reducible apply Z2);focus (first | (with_reducible (repeat (first | exact Z0 | apply Z1));done) | (repeat (first | exact Z0 | apply Z1)))));exact Z3:Takes _ [bigS (owA 2 enc2) F,bigS (owA 2 enc2) G] _) _ h)) ?_
  have sp_2:=flags_same x3 x3 a1 a2 x3.length x3.length c1 c2 (Bun [bigS (owA 2 enc2) F,bigS (owA 2 enc2) G]) Ln (rds_bun (List.mem_cons_self) (rds_big (f:=owA 2 enc2) (List.mem_of_getElem? hx) (rR enc2_len hp1 hp2))) Ln (rds_bun (List.mem_cons_of_mem _ (List.mem_cons_self)) (rds_big (f:=owA 2 enc2) (List.mem_of_getElem? hy) (rR enc2_len hq1 hq2))) Om
  refine qM rfl rfl rfl rfl rfl rfl Tryz.call12 (sp_2) Ts ?_
  rintro ⟨⟩ -
  try simp only [Ca,Na]
  refine cS (A:=Bun [bigS (owA 2 enc2) F,bigS (owA 2 enc2) G]) Tk ?_
  refine s_bun ?_
  try simp only [Ca,Na]
  try simp only [Ca,Na]
  refine qV (kB 67 rfl (v':=.bool true) (by first | rfl | simp) ?_)
  refine sY rfl rfl rfl rfl ?_
  refine kB 68 rfl (v':=.bool false) rfl ?_
  refine qR (qW [0,4,68] (e':=[(0,_),(4,_),(68,_)]) rfl ?_)
  refine qQ (kZ rfl ?_)
  refine qF (kX (qQ (qC (.q 0 (.q 1 (.q 2 (.done)))) Kr ?_)))
  refine qK rfl rfl rfl rfl (qB rfl rfl rfl rfl rfl (cV _ (by exact kP Om Om)) ?_)
  refine qS rfl rfl rfl rfl (qR (qQ ?_))
  refine kJ (x:=i) (i+1) ?_ ?_ ?_ ?_
  · exact by show i+1≤F.length;omega
  · show F.length - (i+1) < F.length - i;omega
  · exact ⟨rfl,rfl,trivial⟩
  · (try simp only [Ca,Na]);exact Tf
 refine cW (qY (qY (kK (qQ (qL (qL (qC (.q 0 (.done)) Kr ?_)))))))
 refine qS rfl rfl rfl rfl (qR (qQ (kC ?_)))
 refine cH (α:=Nat × List (LstA Int)) (fun (x_:Nat × List (LstA Int))=>match x_ with | (i,U)=>i≤C.length∧(WIA wmC C U i)) (fun (x_:Nat × List (LstA Int))=>match x_ with | (i,U)=>[(5,.int .i64 ((i:Nat):Int))]) (fun (x_:Nat × List (LstA Int))=>match x_ with | (i,U)=>[bigS (owA 1 encU) U]) (fun (x_:Nat × List (LstA Int))=>match x_ with | (i,U)=>C.length - i) [0] (er:=[(0,_)]) rfl (0,C) ?_ (by exact ⟨rfl,trivial⟩) (by (try dsimp only);(try simp only [Ad,Zd]);(repeat ((with_reducible apply Z2);focus (first | (with_reducible (repeat (first | exact Z0 | apply Z1));done) | (repeat (first | exact Z0 | apply Z1)))));exact Z3) ?_
 · exact ⟨Nat.zero_le _,wia_start _ C⟩
 rintro ⟨i,U⟩ ⟨hle_i,hWc⟩
 try simp only [Ca,Na]
 refine qL (qL (qC (.q 0 (.q 1 (.q 2 (.q 3 (.q 4 (.q 5 (.q 6 (.done)))))))) Kr ?_))
 refine qK rfl rfl rfl rfl (qK rfl rfl rfl rfl (qX rfl rfl rfl rfl (qG (k:=4) rfl rfl rfl rfl υ'39 rfl ζ'36 rfl ?_)))
 refine qP (j:=4) rfl rfl rfl rfl α'36 Tk Az (by rfl) ?_
 refine cJ rfl rfl rfl rfl υ'36 ?_
 refine qB rfl rfl rfl rfl rfl (cB _ _ _ _) ?_
 refine qR (qW [0,5,75] (e':=[(0,_),(5,_),(75,_)]) rfl ?_)
 refine qQ ?_
 refine qD rfl (fun hlt=>?_) (fun hlt=>?_)
 ·
  obtain ⟨x,hx⟩:=cR (l:=C) (i:=i) Om
  obtain ⟨a2,c2,x3⟩:=x
  have hxb:x3.length≤65535:=hbc _ (List.mem_of_getElem? hx)
  obtain ⟨y,hy⟩:=cR (l:=U) (i:=i) (by have:=hWc.len;omega)
  obtain ⟨a1,c1,y3⟩:=y
  obtain ⟨hs1,hs2,hs3,hs4⟩:=hWc.same i _ _ hx hy
  simp only at hs1 hs2 hs3 hs4
  subst hs1 hs2
  refine qF (qQ (qL (kC (qL (qC (.q 0 (.done)) Kr ?_)))))
  refine qS rfl rfl rfl rfl (qR (qQ (kC (s_big_take (f:=owA 1 encU) (L:=U) Tk hy ?_))))
  refine cH (α:=Nat × List Int) (fun (x_:Nat × List Int)=>match x_ with | (k,l)=>k≤x3.length∧(l.length=x3.length)∧(∀ q,q < k→l[q]?=some (wmC i q))) (fun (x_:Nat × List Int)=>match x_ with | (k,l)=>[(6,.int .i64 ((k:Nat):Int))]) (fun (x_:Nat × List Int)=>match x_ with | (k,l)=>[own 1 encU a1 c1 l]) (fun (x_:Nat × List Int)=>match x_ with | (k,l)=>x3.length - k) [0,5] (er:=[(0,_),(5,_)]) rfl (0,y3) ?_ (by exact ⟨rfl,trivial⟩) (by exact Takes.cons Take.here Takes.nil) ?_
  · exact ⟨Nat.zero_le _,hs3,fun q hq=>by omega⟩
  rintro ⟨k,l⟩ ⟨hle_k,hll,hlq⟩
  try simp only [Ca,Na]
  refine qL (qL (qC (.q 0 (.q 1 (.q 2 (.q 3 (.q 4 (.q 5 (.q 6 (.q 7 (.q 8 (.q 9 (.done))))))))))) Kr ?_))
  refine qK rfl rfl rfl rfl (qK rfl rfl rfl rfl (qX rfl rfl rfl rfl (qG (k:=4) rfl rfl rfl rfl υ'39 rfl ζ'36 rfl ?_)))
  refine qP (j:=4) rfl rfl rfl rfl α'36 Tk Az (by rfl) ?_
  refine qK rfl rfl rfl rfl (kF (sz:=0) (k:=i) (enc:=encH) (xs:=C) rfl rfl rfl rfl rfl υ'36 ζ'65 hx (by first | rfl | omega) Om Tk ?_)
  intro ib84 io84 ha84 hl84 hc84
  refine kS (v:=(.slice a1 x3.length c1)) (j:=0) (k':=i) (enc:=encH) (off:=io84) rfl rfl rfl rfl α'65 ha84 sB hx Tk (by first | rfl | exact (Ad _).symm | omega) (by rfl) ?_
  refine cJ rfl rfl rfl rfl υ'65 ?_
  refine qB rfl rfl rfl rfl rfl (cB _ _ _ _) ?_
  refine qR (qW [0,5,6,87] (e':=[(0,_),(5,_),(6,_),(87,_)]) rfl ?_)
  refine qQ ?_
  refine qD rfl (fun hlk=>?_) (fun hlk=>?_)
  ·
   refine qF (qQ (qL (kC (qC (.q 0 (.q 1 (.q 2 (.q 3 (.q 4 (.q 5 (.q 6 (.q 7 (.q 8 (.q 9 (.q 10 (.q 11 ((.l 12 [] (.done))))))))))))))) Kr ?_))))
   refine qK rfl rfl rfl rfl (qX rfl rfl rfl rfl (qG (k:=4) rfl rfl rfl rfl υ'39 rfl ζ'36 rfl ?_))
   refine qP (j:=4) rfl rfl rfl rfl α'36 Tk Az (by rfl) ?_
   refine qK rfl rfl rfl rfl (kF (sz:=0) (k:=i) (enc:=encH) (xs:=C) rfl rfl rfl rfl rfl υ'36 ζ'65 hx (by first | rfl | omega) Om Tk ?_)
   intro ib95 io95 ha95 hl95 hc95
   refine kS (v:=(.slice a1 x3.length c1)) (j:=0) (k':=i) (enc:=encH) (off:=io95) rfl rfl rfl rfl α'65 ha95 sB hx Tk (by first | rfl | exact (Ad _).symm | omega) (by rfl) ?_
   refine qK rfl rfl rfl rfl (qK rfl rfl rfl rfl (q_conv' rfl rfl rfl rfl υ'67 υ'3 (by exact fits_u64 Om Om) ?_))
   refine qB rfl rfl rfl rfl rfl (cV _ (by exact fits_u64 Om Om)) ?_
   obtain ⟨e_3,he_3⟩:=cR (l:=l) (i:=k) (by first | omega | (simp;done) | (simp;omega))
   refine kF (sz:=0) (k:=k) (enc:=encU) (xs:=l) rfl rfl rfl rfl rfl υ'65 ζ'67 he_3 (by first | rfl | omega) Om Tk ?_
   intro ib101 io101 ha101 hl101 hc101
   refine sK (j:=0) (k:=k) (q:=(wmC i k)) (enc:=encU) (off:=io101) rfl rfl rfl rfl ζ'67 (us:=[_]) rfl rfl rfl ha101 encU_len he_3 Tk (by first | rfl | exact (Ad _).symm | omega) (by first | decide | exact Nat.le_of_ble_eq_true rfl) (by rfl) ?_
   refine qV (qR (qW [0,5,6] (e':=[(0,_),(5,_),(6,_)]) rfl ?_))
   refine kX (qQ (qC (.q 0 (.q 1 (.q 2 (.done)))) Kr ?_))
   refine qK rfl rfl rfl rfl (qB rfl rfl rfl rfl rfl (cV _ (by exact kP Om Om)) ?_)
   refine qS rfl rfl rfl rfl (qR (qQ ?_))
   refine kJ (x:=(k,l)) ((k+1,l.set k (wmC i k))) ?_ ?_ ?_ ?_
   · try dsimp only
     exact ⟨by omega,by rw [List.length_set];exact hll,fun q hq=>by
         by_cases hqk:q=k
         · subst hqk;rw [List.getElem?_set_self Om]
         · rw [List.getElem?_set_ne (Ne.symm hqk)];exact hlq q Om⟩
   · show x3.length - (k+1) < x3.length - k;omega
   · exact ⟨rfl,rfl,rfl,trivial⟩
   · (try simp only [Ca,Na]);exact Tf
  refine cW (qY (qY (kK (kX (qQ (qC (.q 0 (.q 1 (.q 2 (.done)))) Kr ?_))))))
  refine qK rfl rfl rfl rfl (qB rfl rfl rfl rfl rfl (cV _ (by exact kP Om Om)) ?_)
  refine qS rfl rfl rfl rfl (qR (qW [0,5] (e':=[(0,_),(5,_)]) rfl ?_))
  refine qQ ?_
  obtain rfl:k=x3.length:=by omega
  refine s_big_put (f:=owA 1 encU) (L:=U) (i:=i) (y:=(a1,c1,l)) Ts (List.getElem?_eq_some_iff.1 hy).1 ?_
  refine kJ (x:=(i,U)) ((i+1,U.set i (a1,c1,l))) ?_ ?_ ?_ ?_
  · try dsimp only
    exact ⟨by omega,wia_next hWc hx hy l (mks_of hll fun q hq=>hlq q Om)⟩
  · show C.length - (i+1) < C.length - i;omega
  · exact ⟨rfl,rfl,trivial⟩
  · (try simp only [Ca,Na]);exact Tf
 refine cW (qY (qY (kK (qQ (qL (qL ?_))))))
 obtain rfl:i=C.length:=by omega
 refine qC (.q 0 (.done)) Kr ?_
 refine qS rfl rfl rfl rfl (qR (qQ (kC ?_)))
 refine cH (α:=Nat × List (LstA T2)) (fun (x_:Nat × List (LstA T2))=>match x_ with | (i,UF)=>i≤F.length∧(WIA wmF F UF i)) (fun (x_:Nat × List (LstA T2))=>match x_ with | (i,UF)=>[(7,.int .i64 ((i:Nat):Int))]) (fun (x_:Nat × List (LstA T2))=>match x_ with | (i,UF)=>[bigS (owA 2 enc2) UF]) (fun (x_:Nat × List (LstA T2))=>match x_ with | (i,UF)=>F.length - i) [0] (er:=[(0,_)]) rfl (0,F) ?_ (by exact ⟨rfl,trivial⟩) (by (try dsimp only);(try simp only [Ad,Zd]);(repeat ((with_reducible apply Z2);focus (first | (with_reducible (repeat (first | exact Z0 | apply Z1));done) | (repeat (first | exact Z0 | apply Z1)))));exact Z3) ?_
 · exact ⟨Nat.zero_le _,wia_start _ F⟩
 rintro ⟨i,UF⟩ ⟨hle_i,hWf⟩
 try simp only [Ca,Na]
 refine qL (qL (qC (.q 0 (.q 1 (.q 2 (.q 3 (.q 4 (.q 5 (.q 6 (.done)))))))) Kr ?_))
 refine qK rfl rfl rfl rfl (qK rfl rfl rfl rfl (qX rfl rfl rfl rfl (qG (k:=6) rfl rfl rfl rfl υ'39 rfl ζ'37 rfl ?_)))
 refine qP (j:=6) rfl rfl rfl rfl α'37 Tk Az (by rfl) ?_
 refine cJ rfl rfl rfl rfl υ'37 ?_
 refine qB rfl rfl rfl rfl rfl (cB _ _ _ _) ?_
 refine qR (qW [0,7,108] (e':=[(0,_),(7,_),(108,_)]) rfl ?_)
 refine qQ ?_
 refine qD rfl (fun hlt=>?_) (fun hlt=>?_)
 ·
  obtain ⟨x,hx⟩:=cR (l:=F) (i:=i) Om
  obtain ⟨a2,c2,x3⟩:=x
  have hxb:x3.length≤65535:=hbf _ (List.mem_of_getElem? hx)
  obtain ⟨y,hy⟩:=cR (l:=UF) (i:=i) (by have:=hWf.len;omega)
  obtain ⟨a1,c1,y3⟩:=y
  obtain ⟨hs1,hs2,hs3,hs4⟩:=hWf.same i _ _ hx hy
  simp only at hs1 hs2 hs3 hs4
  subst hs1 hs2
  refine qF (qQ (qL (kC (qL (qC (.q 0 (.done)) Kr ?_)))))
  refine qS rfl rfl rfl rfl (qR (qQ (kC (s_big_take (f:=owA 2 enc2) (L:=UF) Tk hy ?_))))
  refine cH (α:=Nat × List T2) (fun (x_:Nat × List T2)=>match x_ with | (k,l)=>k≤x3.length∧(l.length=x3.length)∧(∀ q,q < k→l[q]?=some (wmF i q))) (fun (x_:Nat × List T2)=>match x_ with | (k,l)=>[(8,.int .i64 ((k:Nat):Int))]) (fun (x_:Nat × List T2)=>match x_ with | (k,l)=>[own 2 enc2 a1 c1 l]) (fun (x_:Nat × List T2)=>match x_ with | (k,l)=>x3.length - k) [0,7] (er:=[(0,_),(7,_)]) rfl (0,y3) ?_ (by exact ⟨rfl,trivial⟩) (by exact Takes.cons Take.here Takes.nil) ?_
  · exact ⟨Nat.zero_le _,hs3,fun q hq=>by omega⟩
  rintro ⟨k,l⟩ ⟨hle_k,hll,hlq⟩
  try simp only [Ca,Na]
  refine qL (qL (qC (.q 0 (.q 1 (.q 2 (.q 3 (.q 4 (.q 5 (.q 6 (.q 7 (.q 8 (.q 9 (.done))))))))))) Kr ?_))
  refine qK rfl rfl rfl rfl (qK rfl rfl rfl rfl (qX rfl rfl rfl rfl (qG (k:=6) rfl rfl rfl rfl υ'39 rfl ζ'37 rfl ?_)))
  refine qP (j:=6) rfl rfl rfl rfl α'37 Tk Az (by rfl) ?_
  refine qK rfl rfl rfl rfl (kF (sz:=0) (k:=i) (enc:=encH) (xs:=F) rfl rfl rfl rfl rfl υ'37 ζ'60 hx (by first | rfl | omega) Om Tk ?_)
  intro ib117 io117 ha117 hl117 hc117
  refine kS (v:=(.slice a1 x3.length c1)) (j:=0) (k':=i) (enc:=encH) (off:=io117) rfl rfl rfl rfl α'60 ha117 sB hx Tk (by first | rfl | exact (Ad _).symm | omega) (by rfl) ?_
  refine cJ rfl rfl rfl rfl υ'60 ?_
  refine qB rfl rfl rfl rfl rfl (cB _ _ _ _) ?_
  refine qR (qW [0,7,8,120] (e':=[(0,_),(7,_),(8,_),(120,_)]) rfl ?_)
  refine qQ ?_
  refine qD rfl (fun hlk=>?_) (fun hlk=>?_)
  ·
   refine qF (qQ (qL (kC (qC (.q 0 (.q 1 (.q 2 (.q 3 (.q 4 (.q 5 (.q 6 (.q 7 (.q 8 (.q 9 (.q 10 (.q 11 (.q 12 ((.l 13 [] (.done)))))))))))))))) Kr ?_))))
   refine qK rfl rfl rfl rfl (qX rfl rfl rfl rfl (qG (k:=6) rfl rfl rfl rfl υ'39 rfl ζ'37 rfl ?_))
   refine qP (j:=6) rfl rfl rfl rfl α'37 Tk Az (by rfl) ?_
   refine qK rfl rfl rfl rfl (kF (sz:=0) (k:=i) (enc:=encH) (xs:=F) rfl rfl rfl rfl rfl υ'37 ζ'60 hx (by first | rfl | omega) Om Tk ?_)
   intro ib128 io128 ha128 hl128 hc128
   refine kS (v:=(.slice a1 x3.length c1)) (j:=0) (k':=i) (enc:=encH) (off:=io128) rfl rfl rfl rfl α'60 ha128 sB hx Tk (by first | rfl | exact (Ad _).symm | omega) (by rfl) ?_
   refine qK rfl rfl rfl rfl (qK rfl rfl rfl rfl (q_neg rfl rfl rfl rfl ?_))
   refine kB 132 rfl (v':=.int .i64 (-((i:Nat):Int))) (by rw [wrap_fits (by exact kP Om Om)];congr 1;omega) ?_
   refine qB rfl rfl rfl rfl rfl (b_sub' _ (by exact kP Om Om)) ?_
   refine cC rfl rfl rfl rfl (vs:=[_,_]) (kV υ'63 ω'63 (ps:=[(0,1),(1,1)]) ⟨rfl,ζ'3,rfl,ζ'3,trivial⟩ rfl) ?_
   obtain ⟨e_4,he_4⟩:=cR (l:=l) (i:=k) (by first | omega | (simp;done) | (simp;omega))
   refine kF (sz:=1) (k:=k) (enc:=enc2) (xs:=l) rfl rfl rfl rfl rfl υ'60 ζ'63 he_4 (by first | rfl | omega) Om Tk ?_
   intro ib135 io135 ha135 hl135 hc135
   refine sK (j:=0) (k:=k) (q:=(wmF i k)) (enc:=enc2) (off:=io135) rfl rfl rfl rfl ζ'63 (us:=[_,_]) rfl rfl rfl ha135 enc2_len he_4 Tk (by first | rfl | exact (Ad _).symm | omega) (by first | decide | exact Nat.le_of_ble_eq_true rfl) (by rfl) ?_
   refine qV (qR (qW [0,7,8] (e':=[(0,_),(7,_),(8,_)]) rfl ?_))
   refine kX (qQ (qC (.q 0 (.q 1 (.q 2 (.done)))) Kr ?_))
   refine qK rfl rfl rfl rfl (qB rfl rfl rfl rfl rfl (cV _ (by exact kP Om Om)) ?_)
   refine qS rfl rfl rfl rfl (qR (qQ ?_))
   refine kJ (x:=(k,l)) ((k+1,l.set k (wmF i k))) ?_ ?_ ?_ ?_
   · try dsimp only
     exact ⟨by omega,by rw [List.length_set];exact hll,fun q hq=>by
         by_cases hqk:q=k
         · subst hqk;rw [List.getElem?_set_self Om]
         · rw [List.getElem?_set_ne (Ne.symm hqk)];exact hlq q Om⟩
   · show x3.length - (k+1) < x3.length - k;omega
   · exact ⟨rfl,rfl,rfl,trivial⟩
   · (try simp only [Ca,Na]);exact Tf
  refine cW (qY (qY (kK (kX (qQ (qC (.q 0 (.q 1 (.q 2 (.done)))) Kr ?_))))))
  refine qK rfl rfl rfl rfl (qB rfl rfl rfl rfl rfl (cV _ (by exact kP Om Om)) ?_)
  refine qS rfl rfl rfl rfl (qR (qW [0,7] (e':=[(0,_),(7,_)]) rfl ?_))
  refine qQ ?_
  obtain rfl:k=x3.length:=by omega
  refine s_big_put (f:=owA 2 enc2) (L:=UF) (i:=i) (y:=(a1,c1,l)) Ts (List.getElem?_eq_some_iff.1 hy).1 ?_
  refine kJ (x:=(i,UF)) ((i+1,UF.set i (a1,c1,l))) ?_ ?_ ?_ ?_
  · try dsimp only
    exact ⟨by omega,wia_next hWf hx hy l (mks_of hll fun q hq=>hlq q Om)⟩
  · show F.length - (i+1) < F.length - i;omega
  · exact ⟨rfl,rfl,trivial⟩
  · (try simp only [Ca,Na]);exact Tf
 refine cW (qY (qY (kK (qQ (qL (qL ?_))))))
 obtain rfl:i=F.length:=by omega
 refine qC (.q 0 (.done)) Kr ?_
 refine qS rfl rfl rfl rfl (qR (qQ (kC (s_big_nil (f:=f2A 1 encU) ?_))))
 refine cH (α:=Nat × List (PLA Int)) (fun (x_:Nat × List (PLA Int))=>match x_ with | (j,M)=>j≤C.length∧(MOA wmC wmC 70 C M j)) (fun (x_:Nat × List (PLA Int))=>match x_ with | (j,M)=>[(9,.int .i64 ((j:Nat):Int))]) (fun (x_:Nat × List (PLA Int))=>match x_ with | (j,M)=>[bigS (f2A 1 encU) M,bigS (owA 1 encU) (U.drop j),cells b 0 [.pointer o0,.pointer o1,.pointer r0,.pointer r1,.slice ca C.length cc,.slice wa W.length wc,.slice fa F.length fc,.slice ga G.length gc],own 1 encH ca cc C,own 1 encH wa wc (M.map (·.2)++W.drop j),own 1 encH fa fc F,own 1 encH ga gc G]) (fun (x_:Nat × List (PLA Int))=>match x_ with | (j,M)=>C.length - j) [0] (er:=[(0,_)]) rfl (0,[]) ?_ (by exact ⟨rfl,trivial⟩) (by (try dsimp only);simp only [List.drop_zero,List.map_nil,Na];(repeat ((with_reducible apply Z2);focus (first | (with_reducible (repeat (first | exact Z0 | apply Z1));done) | (repeat (first | exact Z0 | apply Z1)))));exact Z3) ?_
 · exact ⟨Nat.zero_le _,⟨rfl,fun j x p _ h=>by simp at h⟩⟩
 rintro ⟨j,M⟩ ⟨hle_j,hMc⟩
 try simp only [Ca,Na]
 have hml:=hMc.len
 have hmm:(M.map (·.2)).length=M.length:=List.length_map _
 refine qL (qL (qC (.q 0 (.q 1 (.q 2 (.q 3 (.q 4 (.q 5 (.q 6 (.done)))))))) Kr ?_))
 refine qK rfl rfl rfl rfl (qK rfl rfl rfl rfl (qX rfl rfl rfl rfl (qG (k:=4) rfl rfl rfl rfl υ'39 rfl ζ'36 rfl ?_)))
 refine qP (j:=4) rfl rfl rfl rfl α'36 Tk Az (by rfl) ?_
 refine cJ rfl rfl rfl rfl υ'36 ?_
 refine qB rfl rfl rfl rfl rfl (cB _ _ _ _) ?_
 refine qR (qW [0,9,142] (e':=[(0,_),(9,_),(142,_)]) rfl ?_)
 refine qQ ?_
 refine qD rfl (fun hlj=>?_) (fun hlj=>?_)
 ·
  obtain ⟨x,hx⟩:=cR (l:=C) (i:=j) Om
  obtain ⟨a2,c2,x3⟩:=x
  have hxb:x3.length≤65535:=hbc _ (List.mem_of_getElem? hx)
  obtain ⟨y,hy⟩:=cR (l:=U) (i:=j) (by have:=hWc.len;omega)
  obtain ⟨a1,c1,y3⟩:=y
  obtain ⟨hs1,hs2,hs3,hs4⟩:=hWc.same j _ _ hx hy
  simp only at hs1 hs2 hs3 hs4
  subst hs1 hs2
  obtain rfl:=hs4 Om
  obtain ⟨wj,hwj_⟩:=cR (l:=W) (i:=j) Om
  have hwj:(M.map (·.2)++W.drop j)[j]?=some wj:=(app_get (hmm.trans hml)).trans hwj_
  refine qF (qQ (qL (kC (qL (qC (.q 0 (.q 1 (.q 2 (.q 3 (.q 4 (.q 5 (.q 6 (.q 7 (.done))))))))) Kr ?_)))))
  refine qK rfl rfl rfl rfl (qX rfl rfl rfl rfl (qG (k:=4) rfl rfl rfl rfl υ'39 rfl ζ'36 rfl ?_))
  refine qP (j:=4) rfl rfl rfl rfl α'36 Tk Az (by rfl) ?_
  refine qK rfl rfl rfl rfl (kF (sz:=0) (k:=j) (enc:=encH) (xs:=C) rfl rfl rfl rfl rfl υ'36 ζ'65 hx (by first | rfl | omega) Om Tk ?_)
  intro ib150 io150 ha150 hl150 hc150
  refine kS (v:=(.slice a1 x3.length c1)) (j:=0) (k':=j) (enc:=encH) (off:=io150) rfl rfl rfl rfl α'65 ha150 sB hx Tk (by first | rfl | exact (Ad _).symm | omega) (by rfl) ?_
  refine qS rfl rfl rfl rfl (qR (qW [0,9,10] (e':=[(0,_),(9,_),(10,_)]) rfl ?_))
  refine qQ (qL (qL (qC (.q 0 (.done)) Kr ?_)))
  refine qS rfl rfl rfl rfl (qR (qQ (kC ?_)))
  refine s_big_take (f:=owA 1 encU) (L:=U.drop j) (i:=0) (x:=(a1,c1,mks (wmC j) x3.length)) Tk (by rw [List.getElem?_drop];exact hy) ?_
  refine cQ (fun _ h=>app2_start h) ?_
  refine cH (α:=Nat × Option Addr × Nat) (fun (x_:Nat × Option Addr × Nat)=>match x_ with | (k,an,cn)=>k≤70∧True) (fun (x_:Nat × Option Addr × Nat)=>match x_ with | (k,an,cn)=>[(10,.slice an (x3.length+k) cn),(11,.int .i64 ((k:Nat):Int))]) (fun (x_:Nat × Option Addr × Nat)=>match x_ with | (k,an,cn)=>[app2 1 encU a1 c1 (mks (wmC j) x3.length) an cn (mks (wmC j) x3.length++mks (wmC j) k)]) (fun (x_:Nat × Option Addr × Nat)=>match x_ with | (k,an,cn)=>70 - k) [0,9] (er:=[(0,_),(9,_)]) rfl (0,a1,c1) ?_ (by exact ⟨rfl,rfl,trivial⟩) (by dsimp only;rw [show mks (wmC j) 0=[] from rfl,List.append_nil];exact Takes.cons Take.here Takes.nil) ?_
  · exact ⟨Nat.zero_le _,trivial⟩
  rintro ⟨k,an,cn⟩ ⟨hle_k,hc_⟩
  try simp only [Ca,Na]
  refine qL (qL (qC (.q 0 (.q 1 (.done))) Kr ?_))
  refine qK rfl rfl rfl rfl (qB rfl rfl rfl rfl rfl (cB _ _ _ _) ?_)
  refine qR (qQ ?_)
  refine qD rfl (fun hlk=>?_) (fun hlk=>?_)
  ·
   refine qF (qQ (qL (kC (qC (.q 0 (.q 1 (.q 2 (.q 3 ((.l 4 [] ((.l 5 [] (.q 6 (.done)))))))))) Kr ?_))))
   refine qK rfl rfl rfl rfl (qK rfl rfl rfl rfl (q_conv' rfl rfl rfl rfl υ'67 υ'3 (by exact fits_u64 Om Om) ?_))
   refine qB rfl rfl rfl rfl rfl (cV _ (by exact fits_u64 Om Om)) ?_
   refine cL rfl rfl rfl rfl (sQ (us:=[_]) υ'65 ζ'67 rfl ω'67 rfl rfl rfl) ?_
   intro b160
   refine qV (l_appendA (sz:=1) rfl rfl rfl rfl rfl υ'65 τ'67 rfl rfl rfl (by decide) Tk Tk (by rw [List.length_append,mks_len,mks_len]) (ys:=[wmC j k]) (sX sS) (by rfl) (by rfl) encU_len encU_one Om (by show _*8≤_;omega) (mks_take _ _ _) ?_)
   intro an2 cn2
   refine qV (qS rfl rfl rfl rfl (qR (qW [0,9,10,11] (e':=[(0,_),(9,_),(10,_),(11,_)]) rfl ?_)))
   refine kX (qQ (qC (.q 0 (.q 1 (.q 2 (.done)))) Kr ?_))
   refine qK rfl rfl rfl rfl (qB rfl rfl rfl rfl rfl (cV _ (by exact kP Om Om)) ?_)
   refine qS rfl rfl rfl rfl (qR (qQ ?_))
   rw [List.append_assoc,mks_next]
   refine kB 10 rfl (v':=.slice an2 (x3.length+(k+1)) cn2) (by first | rfl | (congr 1;done) | (congr 1 <;> first | rfl | omega | (simp;done) | (simp;omega))) ?_
   refine kJ (x:=(k,an,cn)) ((k+1,an2,cn2)) ?_ ?_ ?_ ?_
   · try dsimp only
     exact ⟨by omega,trivial⟩
   · show 70 - (k+1) < 70 - k;omega
   · exact ⟨rfl,rfl,rfl,rfl,trivial⟩
   · (try simp only [Ca,Na]);exact Tf
  refine cW (qY (qY (kK (qQ ?_))))
  obtain rfl:k=70:=by omega
  refine qC (.q 0 (.q 1 (.q 2 (.q 3 (.q 4 (.q 5 (.q 6 ((.l 7 [] (.done)))))))))) Kr ?_
  refine qK rfl rfl rfl rfl (qX rfl rfl rfl rfl (qG (k:=5) rfl rfl rfl rfl υ'39 rfl ζ'36 rfl ?_))
  refine qP (j:=5) rfl rfl rfl rfl α'36 Tk Az (by rfl) ?_
  refine qK rfl rfl rfl rfl (qK rfl rfl rfl rfl (kF (sz:=0) (k:=j) (enc:=encH) (xs:=(M.map (·.2)++W.drop j)) rfl rfl rfl rfl rfl υ'36 ζ'65 hwj (by first | rfl | omega) Om Tk ?_))
  intro ib168 io168 ha168 hl168 hc168
  refine sK (j:=0) (k:=j) (q:=((an,cn,mks (wmC j) x3.length++mks (wmC j) 70):LstA Int)) (enc:=encH) (off:=io168) rfl rfl rfl rfl ζ'65 (us:=[_]) rfl rfl rfl ha168 sB hwj Tk (by first | rfl | exact (Ad _).symm | omega) (by first | decide | exact Nat.le_of_ble_eq_true rfl) (by simp [encH,setL,mks_len]) ?_
  refine qV (qR (qW [0,9] (e':=[(0,_),(9,_)]) rfl ?_))
  refine kX (qQ (qC (.q 0 (.q 1 (.q 2 (.done)))) Kr ?_))
  refine qK rfl rfl rfl rfl (qB rfl rfl rfl rfl rfl (cV _ (by exact kP Om Om)) ?_)
  refine qS rfl rfl rfl rfl (qR (qQ (s_big_push (f:=f2A 1 encU) (L:=M) (x:=((a1,c1,mks (wmC j) x3.length),(an,cn,mks (wmC j) x3.length++mks (wmC j) 70))) Ts ?_)))
  rw [List.eraseIdx_zero,List.tail_drop,app_set ((an,cn,mks (wmC j) x3.length++mks (wmC j) 70):LstA Int) (hmm.trans hml) (show j < W.length by omega),show M.map (·.2)++[(an,cn,mks (wmC j) x3.length++mks (wmC j) 70)]=(M++[((a1,c1,mks (wmC j) x3.length),(an,cn,mks (wmC j) x3.length++mks (wmC j) 70))]).map (·.2) from by simp]
  refine kJ (x:=(j,M)) ((j+1,(M++[((a1,c1,mks (wmC j) x3.length),(an,cn,mks (wmC j) x3.length++mks (wmC j) 70))]))) ?_ ?_ ?_ ?_
  · try dsimp only
    exact ⟨by omega,moa_next hMc hx rfl rfl⟩
  · show C.length - (j+1) < C.length - j;omega
  · exact ⟨rfl,rfl,trivial⟩
  · (try simp only [Ca,Na]);exact Tf
 refine cW (qY (qY (kK (qQ (qL (qL ?_))))))
 obtain rfl:j=C.length:=by omega
 rw [show W.drop C.length=[] from List.drop_of_length_le Om,List.append_nil]
 refine qC (.q 0 (.done)) Kr ?_
 refine qS rfl rfl rfl rfl (qR (qQ (kC (s_big_nil (f:=f2A 2 enc2) ?_))))
 refine cH (α:=Nat × List (PLA T2)) (fun (x_:Nat × List (PLA T2))=>match x_ with | (j,MF)=>j≤F.length∧(MOA wmF wmF 70 F MF j)) (fun (x_:Nat × List (PLA T2))=>match x_ with | (j,MF)=>[(12,.int .i64 ((j:Nat):Int))]) (fun (x_:Nat × List (PLA T2))=>match x_ with | (j,MF)=>[bigS (f2A 2 enc2) MF,bigS (owA 2 enc2) (UF.drop j),cells b 0 [.pointer o0,.pointer o1,.pointer r0,.pointer r1,.slice ca C.length cc,.slice wa W.length wc,.slice fa F.length fc,.slice ga G.length gc],own 1 encH ca cc C,own 1 encH wa wc (M.map (·.2)),own 1 encH fa fc F,own 1 encH ga gc (MF.map (·.2)++G.drop j)]) (fun (x_:Nat × List (PLA T2))=>match x_ with | (j,MF)=>F.length - j) [0] (er:=[(0,_)]) rfl (0,[]) ?_ (by exact ⟨rfl,trivial⟩) (by (try dsimp only);simp only [List.drop_zero,List.map_nil,Na];(repeat ((with_reducible apply Z2);focus (first | (with_reducible (repeat (first | exact Z0 | apply Z1));done) | (repeat (first | exact Z0 | apply Z1)))));exact Z3) ?_
 · exact ⟨Nat.zero_le _,⟨rfl,fun j x p _ h=>by simp at h⟩⟩
 rintro ⟨j,MF⟩ ⟨hle_j,hMf⟩
 try simp only [Ca,Na]
 have hml:=hMf.len
 have hmm:(MF.map (·.2)).length=MF.length:=List.length_map _
 refine qL (qL (qC (.q 0 (.q 1 (.q 2 (.q 3 (.q 4 (.q 5 (.q 6 (.done)))))))) Kr ?_))
 refine qK rfl rfl rfl rfl (qK rfl rfl rfl rfl (qX rfl rfl rfl rfl (qG (k:=6) rfl rfl rfl rfl υ'39 rfl ζ'37 rfl ?_)))
 refine qP (j:=6) rfl rfl rfl rfl α'37 Tk Az (by rfl) ?_
 refine cJ rfl rfl rfl rfl υ'37 ?_
 refine qB rfl rfl rfl rfl rfl (cB _ _ _ _) ?_
 refine qR (qW [0,12,175] (e':=[(0,_),(12,_),(175,_)]) rfl ?_)
 refine qQ ?_
 refine qD rfl (fun hlj=>?_) (fun hlj=>?_)
 ·
  obtain ⟨x,hx⟩:=cR (l:=F) (i:=j) Om
  obtain ⟨a2,c2,x3⟩:=x
  have hxb:x3.length≤65535:=hbf _ (List.mem_of_getElem? hx)
  obtain ⟨y,hy⟩:=cR (l:=UF) (i:=j) (by have:=hWf.len;omega)
  obtain ⟨a1,c1,y3⟩:=y
  obtain ⟨hs1,hs2,hs3,hs4⟩:=hWf.same j _ _ hx hy
  simp only at hs1 hs2 hs3 hs4
  subst hs1 hs2
  obtain rfl:=hs4 Om
  obtain ⟨wj,hwj_⟩:=cR (l:=G) (i:=j) Om
  have hwj:(MF.map (·.2)++G.drop j)[j]?=some wj:=(app_get (hmm.trans hml)).trans hwj_
  refine qF (qQ (qL (kC (qL (qC (.q 0 (.q 1 (.q 2 (.q 3 (.q 4 (.q 5 (.q 6 (.q 7 (.done))))))))) Kr ?_)))))
  refine qK rfl rfl rfl rfl (qX rfl rfl rfl rfl (qG (k:=6) rfl rfl rfl rfl υ'39 rfl ζ'37 rfl ?_))
  refine qP (j:=6) rfl rfl rfl rfl α'37 Tk Az (by rfl) ?_
  refine qK rfl rfl rfl rfl (kF (sz:=0) (k:=j) (enc:=encH) (xs:=F) rfl rfl rfl rfl rfl υ'37 ζ'60 hx (by first | rfl | omega) Om Tk ?_)
  intro ib183 io183 ha183 hl183 hc183
  refine kS (v:=(.slice a1 x3.length c1)) (j:=0) (k':=j) (enc:=encH) (off:=io183) rfl rfl rfl rfl α'60 ha183 sB hx Tk (by first | rfl | exact (Ad _).symm | omega) (by rfl) ?_
  refine qS rfl rfl rfl rfl (qR (qW [0,12,13] (e':=[(0,_),(12,_),(13,_)]) rfl ?_))
  refine qQ (qL (qL (qC (.q 0 (.done)) Kr ?_)))
  refine qS rfl rfl rfl rfl (qR (qQ (kC ?_)))
  refine s_big_take (f:=owA 2 enc2) (L:=UF.drop j) (i:=0) (x:=(a1,c1,mks (wmF j) x3.length)) Tk (by rw [List.getElem?_drop];exact hy) ?_
  refine cQ (fun _ h=>app2_start h) ?_
  refine cH (α:=Nat × Option Addr × Nat) (fun (x_:Nat × Option Addr × Nat)=>match x_ with | (k,an,cn)=>k≤70∧True) (fun (x_:Nat × Option Addr × Nat)=>match x_ with | (k,an,cn)=>[(13,.slice an (x3.length+k) cn),(14,.int .i64 ((k:Nat):Int))]) (fun (x_:Nat × Option Addr × Nat)=>match x_ with | (k,an,cn)=>[app2 2 enc2 a1 c1 (mks (wmF j) x3.length) an cn (mks (wmF j) x3.length++mks (wmF j) k)]) (fun (x_:Nat × Option Addr × Nat)=>match x_ with | (k,an,cn)=>70 - k) [0,12] (er:=[(0,_),(12,_)]) rfl (0,a1,c1) ?_ (by exact ⟨rfl,rfl,trivial⟩) (by dsimp only;rw [show mks (wmF j) 0=[] from rfl,List.append_nil];exact Takes.cons Take.here Takes.nil) ?_
  · exact ⟨Nat.zero_le _,trivial⟩
  rintro ⟨k,an,cn⟩ ⟨hle_k,hc_⟩
  try simp only [Ca,Na]
  refine qL (qL (qC (.q 0 (.q 1 (.done))) Kr ?_))
  refine qK rfl rfl rfl rfl (qB rfl rfl rfl rfl rfl (cB _ _ _ _) ?_)
  refine qR (qQ ?_)
  refine qD rfl (fun hlk=>?_) (fun hlk=>?_)
  ·
   refine qF (qQ (qL (kC (qC (.q 0 (.q 1 (.q 2 (.q 3 (.q 4 ((.l 5 [] ((.l 6 [] (.q 7 (.done))))))))))) Kr ?_))))
   refine qK rfl rfl rfl rfl (qK rfl rfl rfl rfl (q_neg rfl rfl rfl rfl ?_))
   refine kB 191 rfl (v':=.int .i64 (-((j:Nat):Int))) (by rw [wrap_fits (by exact kP Om Om)];congr 1;omega) ?_
   refine qB rfl rfl rfl rfl rfl (b_sub' _ (by exact kP Om Om)) ?_
   refine cC rfl rfl rfl rfl (vs:=[_,_]) (kV υ'63 ω'63 (ps:=[(0,1),(1,1)]) ⟨rfl,ζ'3,rfl,ζ'3,trivial⟩ rfl) ?_
   refine cL rfl rfl rfl rfl (sQ (us:=[_,_]) υ'60 ζ'63 rfl ω'63 rfl rfl rfl) ?_
   intro b194
   refine qV (l_appendA (sz:=2) rfl rfl rfl rfl rfl υ'60 Tryz.typeInfo63 rfl rfl rfl (by decide) Tk Tk (by rw [List.length_append,mks_len,mks_len]) (ys:=[wmF j k]) (sX sS) (by rfl) (by rfl) enc2_len enc2_one Om (by show _*16≤_;omega) (mks_take _ _ _) ?_)
   intro an2 cn2
   refine qV (qS rfl rfl rfl rfl (qR (qW [0,12,13,14] (e':=[(0,_),(12,_),(13,_),(14,_)]) rfl ?_)))
   refine kX (qQ (qC (.q 0 (.q 1 (.q 2 (.done)))) Kr ?_))
   refine qK rfl rfl rfl rfl (qB rfl rfl rfl rfl rfl (cV _ (by exact kP Om Om)) ?_)
   refine qS rfl rfl rfl rfl (qR (qQ ?_))
   rw [List.append_assoc,mks_next]
   refine kB 13 rfl (v':=.slice an2 (x3.length+(k+1)) cn2) (by first | rfl | (congr 1;done) | (congr 1 <;> first | rfl | omega | (simp;done) | (simp;omega))) ?_
   refine kJ (x:=(k,an,cn)) ((k+1,an2,cn2)) ?_ ?_ ?_ ?_
   · try dsimp only
     exact ⟨by omega,trivial⟩
   · show 70 - (k+1) < 70 - k;omega
   · exact ⟨rfl,rfl,rfl,rfl,trivial⟩
   · (try simp only [Ca,Na]);exact Tf
  refine cW (qY (qY (kK (qQ ?_))))
  obtain rfl:k=70:=by omega
  refine qC (.q 0 (.q 1 (.q 2 (.q 3 (.q 4 (.q 5 (.q 6 ((.l 7 [] (.done)))))))))) Kr ?_
  refine qK rfl rfl rfl rfl (qX rfl rfl rfl rfl (qG (k:=7) rfl rfl rfl rfl υ'39 rfl ζ'37 rfl ?_))
  refine qP (j:=7) rfl rfl rfl rfl α'37 Tk Az (by rfl) ?_
  refine qK rfl rfl rfl rfl (qK rfl rfl rfl rfl (kF (sz:=0) (k:=j) (enc:=encH) (xs:=(MF.map (·.2)++G.drop j)) rfl rfl rfl rfl rfl υ'37 ζ'60 hwj (by first | rfl | omega) Om Tk ?_))
  intro ib202 io202 ha202 hl202 hc202
  refine sK (j:=0) (k:=j) (q:=((an,cn,mks (wmF j) x3.length++mks (wmF j) 70):LstA T2)) (enc:=encH) (off:=io202) rfl rfl rfl rfl ζ'60 (us:=[_]) rfl rfl rfl ha202 sB hwj Tk (by first | rfl | exact (Ad _).symm | omega) (by first | decide | exact Nat.le_of_ble_eq_true rfl) (by simp [encH,setL,mks_len]) ?_
  refine qV (qR (qW [0,12] (e':=[(0,_),(12,_)]) rfl ?_))
  refine kX (qQ (qC (.q 0 (.q 1 (.q 2 (.done)))) Kr ?_))
  refine qK rfl rfl rfl rfl (qB rfl rfl rfl rfl rfl (cV _ (by exact kP Om Om)) ?_)
  refine qS rfl rfl rfl rfl (qR (qQ (s_big_push (f:=f2A 2 enc2) (L:=MF) (x:=((a1,c1,mks (wmF j) x3.length),(an,cn,mks (wmF j) x3.length++mks (wmF j) 70))) Ts ?_)))
  rw [List.eraseIdx_zero,List.tail_drop,app_set ((an,cn,mks (wmF j) x3.length++mks (wmF j) 70):LstA T2) (hmm.trans hml) (show j < G.length by omega),show MF.map (·.2)++[(an,cn,mks (wmF j) x3.length++mks (wmF j) 70)]=(MF++[((a1,c1,mks (wmF j) x3.length),(an,cn,mks (wmF j) x3.length++mks (wmF j) 70))]).map (·.2) from by simp]
  refine kJ (x:=(j,MF)) ((j+1,(MF++[((a1,c1,mks (wmF j) x3.length),(an,cn,mks (wmF j) x3.length++mks (wmF j) 70))]))) ?_ ?_ ?_ ?_
  · try dsimp only
    exact ⟨by omega,moa_next hMf hx rfl rfl⟩
  · show F.length - (j+1) < F.length - j;omega
  · exact ⟨rfl,rfl,trivial⟩
  · (try simp only [Ca,Na]);exact Tf
 refine cW (qY (qY (kK (qQ (qL (qL ?_))))))
 obtain rfl:j=F.length:=by omega
 rw [show G.drop F.length=[] from List.drop_of_length_le Om,List.append_nil]
 refine qC (.q 0 (.done)) Kr ?_
 refine qS rfl rfl rfl rfl (qR (qQ (kC ?_)))
 refine cH (α:=Nat) (fun (p:Nat)=>p≤C.length) (fun (p:Nat)=>[(15,.int .i64 ((p:Nat):Int))]) (fun (p:Nat)=>[]) (fun (p:Nat)=>C.length - p) [0] (er:=[(0,_)]) rfl (0) ?_ (by exact ⟨rfl,trivial⟩) (by (try dsimp only);(try simp only [Ad,Zd]);(repeat ((with_reducible apply Z2);focus (first | (with_reducible (repeat (first | exact Z0 | apply Z1));done) | (repeat (first | exact Z0 | apply Z1)))));exact Z3) ?_
 · exact Nat.zero_le _
 rintro p hle_p
 try simp only [Ca,Na]
 have hml:=hMc.len
 have hmm:(M.map (·.2)).length=M.length:=List.length_map _
 refine qL (qL (qC (.q 0 (.q 1 (.q 2 (.q 3 (.q 4 (.q 5 (.q 6 (.done)))))))) Kr ?_))
 refine qK rfl rfl rfl rfl (qK rfl rfl rfl rfl (qX rfl rfl rfl rfl (qG (k:=4) rfl rfl rfl rfl υ'39 rfl ζ'36 rfl ?_)))
 refine qP (j:=4) rfl rfl rfl rfl α'36 Tk Az (by rfl) ?_
 refine cJ rfl rfl rfl rfl υ'36 ?_
 refine qB rfl rfl rfl rfl rfl (cB _ _ _ _) ?_
 refine qR (qW [0,15,209] (e':=[(0,_),(15,_),(209,_)]) rfl ?_)
 refine qQ ?_
 refine qD rfl (fun hlp=>?_) (fun hlp=>?_)
 ·
  try rw [List.length_map] at hlp
  obtain ⟨x,hx⟩:=cR (l:=C) (i:=p) Om
  obtain ⟨y,hy⟩:=cR (l:=M) (i:=p) Om
  obtain ⟨a1,c1,x3⟩:=x
  obtain ⟨⟨b1,b2,b3⟩,⟨an,cn,l2⟩⟩:=y
  obtain ⟨hs1,hs2⟩:=hMc.at_ p _ _ hx hy
  simp only [Prod.mk.injEq] at hs1 hs2
  obtain ⟨rfl,rfl,rfl⟩:=hs1
  subst hs2
  have hxb:x3.length≤65535:=hbc _ (List.mem_of_getElem? hx)
  have hyM:=List.mem_of_getElem? hy
  have hyp:(M.map (·.2))[p]?=some (an,cn,(mks (wmC p) x3.length++mks (wmC p) 70)):=by rw [List.getElem?_map,hy];rfl
  have hll:(mks (wmC p) x3.length++mks (wmC p) 70).length=x3.length+70:=by rw [List.length_append,mks_len,mks_len]
  refine s_f2A (M:=M) Tk hy (mks_take _ _ _) fun hfx=>?_
  refine qF (qQ (qL (kC (qL (qC (.q 0 (.done)) Kr ?_)))))
  refine qS rfl rfl rfl rfl (qR (qQ (kC ?_)))
  refine cH (α:=Nat) (fun (k:Nat)=>k≤x3.length+70) (fun (k:Nat)=>[(16,.int .i64 ((k:Nat):Int))]) (fun (k:Nat)=>[]) (fun (k:Nat)=>x3.length+70 - k) [0,15] (er:=[(0,_),(15,_)]) rfl (0) ?_ (by exact ⟨rfl,trivial⟩) (by (try dsimp only);(try simp only [Ad,Zd]);(repeat ((with_reducible apply Z2);focus (first | (with_reducible (repeat (first | exact Z0 | apply Z1));done) | (repeat (first | exact Z0 | apply Z1)))));exact Z3) ?_
  · exact Nat.zero_le _
  rintro k hle_k
  try simp only [Ca,Na]
  refine qL (qL (qC (.q 0 (.q 1 (.q 2 (.q 3 (.q 4 (.q 5 (.q 6 (.q 7 (.q 8 (.q 9 (.done))))))))))) Kr ?_))
  refine qK rfl rfl rfl rfl (qK rfl rfl rfl rfl (qX rfl rfl rfl rfl (qG (k:=5) rfl rfl rfl rfl υ'39 rfl ζ'36 rfl ?_)))
  refine qP (j:=5) rfl rfl rfl rfl α'36 Tk Az (by rfl) ?_
  refine qK rfl rfl rfl rfl (kF (sz:=0) (k:=p) (enc:=encH) (xs:=(M.map (·.2))) rfl rfl rfl rfl rfl υ'36 ζ'65 hyp (by first | rfl | omega) Om Tk ?_)
  intro ib218 io218 ha218 hl218 hc218
  refine kS (v:=(.slice an ((mks (wmC p) x3.length++mks (wmC p) 70).length) cn)) (j:=0) (k':=p) (enc:=encH) (off:=io218) rfl rfl rfl rfl α'65 ha218 sB hyp Tk (by first | rfl | exact (Ad _).symm | omega) (by rfl) ?_
  refine cJ rfl rfl rfl rfl υ'65 ?_
  refine qB rfl rfl rfl rfl rfl (cB _ _ _ _) ?_
  refine qR (qW [0,15,16,221] (e':=[(0,_),(15,_),(16,_),(221,_)]) rfl ?_)
  refine qQ ?_
  refine qD rfl (fun hlk=>?_) (fun hlk=>?_)
  ·
   have hlk2:k < x3.length+70:=by
     have h1:=hlk
     omega
   refine qF (qQ (qL (kC (qL (qC (.q 0 (.q 1 (.q 2 (.q 3 (.q 4 (.q 5 (.q 6 (.q 7 (.q 8 (.q 9 (.q 10 (.q 11 (.q 12 (.q 13 (.q 14 (.q 15 (.q 16 (.q 17 (.q 18 (.q 19 (.q 20 (.q 21 (.q 22 (.q 23 (.q 24 (.q 25 (.q 26 (.q 27 (.q 28 (.q 29 (.q 30 (.q 31 (.q 32 (.q 33 (.q 34 (.q 35 (.q 36 (.q 37 (.q 38 (.q 39 (.q 40 (.q 41 (.done))))))))))))))))))))))))))))))))))))))))))) Kr ?_)))))
   refine qK rfl rfl rfl rfl (qX rfl rfl rfl rfl (qG (k:=5) rfl rfl rfl rfl υ'39 rfl ζ'36 rfl ?_))
   refine qP (j:=5) rfl rfl rfl rfl α'36 Tk Az (by rfl) ?_
   refine qK rfl rfl rfl rfl (kF (sz:=0) (k:=p) (enc:=encH) (xs:=(M.map (·.2))) rfl rfl rfl rfl rfl υ'36 ζ'65 hyp (by first | rfl | omega) Om Tk ?_)
   intro ib229 io229 ha229 hl229 hc229
   refine kS (v:=(.slice an ((mks (wmC p) x3.length++mks (wmC p) 70).length) cn)) (j:=0) (k':=p) (enc:=encH) (off:=io229) rfl rfl rfl rfl α'65 ha229 sB hyp Tk (by first | rfl | exact (Ad _).symm | omega) (by rfl) ?_
   refine qK rfl rfl rfl rfl (q_idxR (sz:=0) (k:=k) rfl rfl rfl rfl rfl υ'65 ζ'67 (rds_big (f:=f2A 1 encU) hyM (rds_app2_l encU_len hfx.1.1 hfx.1.2)) (mk2_all (f:=wmC) (p:=p) (n:=x3.length) (m:=70) (k:=k) (fun _=>rfl) hlk2) encU_len (by first | rfl | omega) Om ?_)
   intro ib232 io232 _ hd232
   refine q_load rfl rfl rfl rfl α'67 Tk (hd232 0 (.int .u64 (wmC p k)) rfl) ?_
   refine qK rfl rfl rfl rfl (q_conv' rfl rfl rfl rfl υ'67 υ'3 (by exact fits_u64 Om Om) ?_)
   refine qB rfl rfl rfl rfl rfl (cV _ (by exact fits_u64 Om Om)) ?_
   refine qB rfl rfl rfl rfl rfl (b_neq _ _ _ _) ?_
   refine kB 237 rfl (v':=.bool false) (by refine congrArg Value.bool (decide_eq_false ?_);intro h9;exact h9 (by unfold wmC;first | omega | (dsimp only;omega))) ?_
   refine qK rfl rfl rfl rfl (qK rfl rfl rfl rfl (qK rfl rfl rfl rfl (qX rfl rfl rfl rfl (qG (k:=4) rfl rfl rfl rfl υ'39 rfl ζ'36 rfl ?_))))
   refine qP (j:=4) rfl rfl rfl rfl α'36 Tk Az (by rfl) ?_
   refine qK rfl rfl rfl rfl (kF (sz:=0) (k:=p) (enc:=encH) (xs:=C) rfl rfl rfl rfl rfl υ'36 ζ'65 hx (by first | rfl | omega) Om Tk ?_)
   intro ib245 io245 ha245 hl245 hc245
   refine kS (v:=(.slice b1 x3.length b2)) (j:=0) (k':=p) (enc:=encH) (off:=io245) rfl rfl rfl rfl α'65 ha245 sB hx Tk (by first | rfl | exact (Ad _).symm | omega) (by rfl) ?_
   refine cJ rfl rfl rfl rfl υ'65 ?_
   refine qB rfl rfl rfl rfl rfl (cB _ _ _ _) ?_
   refine qK rfl rfl rfl rfl ?_
   refine cF 249 rfl (fun hkn=>?_) (fun hkn=>?_)
   ·
    refine qK rfl rfl rfl rfl (qX rfl rfl rfl rfl (qG (k:=4) rfl rfl rfl rfl υ'39 rfl ζ'36 rfl ?_))
    refine qP (j:=4) rfl rfl rfl rfl α'36 Tk Az (by rfl) ?_
    refine qK rfl rfl rfl rfl (kF (sz:=0) (k:=p) (enc:=encH) (xs:=C) rfl rfl rfl rfl rfl υ'36 ζ'65 hx (by first | rfl | omega) Om Tk ?_)
    intro ib255 io255 ha255 hl255 hc255
    refine kS (v:=(.slice b1 x3.length b2)) (j:=0) (k':=p) (enc:=encH) (off:=io255) rfl rfl rfl rfl α'65 ha255 sB hx Tk (by first | rfl | exact (Ad _).symm | omega) (by rfl) ?_
    refine qK rfl rfl rfl rfl (q_idxR (sz:=0) (k:=k) rfl rfl rfl rfl rfl υ'65 ζ'67 (rds_big (f:=f2A 1 encU) hyM (rds_app2_r encU_len (mks_take _ _ _) hfx.2.1 hfx.2.2)) (mks_get (wmC p) (n:=x3.length) (k:=k) Om) encU_len (by first | rfl | omega) Om ?_)
    intro ib258 io258 _ hd258
    refine q_load rfl rfl rfl rfl α'67 Tk (hd258 0 (.int .u64 (wmC p k)) rfl) ?_
    refine qK rfl rfl rfl rfl (q_conv' rfl rfl rfl rfl υ'67 υ'3 (by exact fits_u64 Om Om) ?_)
    refine qB rfl rfl rfl rfl rfl (cV _ (by exact fits_u64 Om Om)) ?_
    refine qB rfl rfl rfl rfl rfl (b_neq _ _ _ _) ?_
    refine kB 263 rfl (v':=.bool false) (by refine congrArg Value.bool (decide_eq_false ?_);intro h9;exact h9 (by unfold wmC;first | omega | (dsimp only;omega))) ?_
    refine kW rfl rfl rfl rfl rfl (kN rfl rfl rfl rfl rfl (qR (qW [0,15,16,239,240,241,242,243,244,245,246,247,248,249,250,251,252,253,254,255,256,257,258,259,260,261,262,263,264,265] (e':=[(0,_),(15,_),(16,_),(239,_),(240,_),(241,_),(242,_),(243,_),(244,_),(245,_),(246,_),(247,_),(248,_),(249,_),(250,_),(251,_),(252,_),(253,_),(254,_),(255,_),(256,_),(257,_),(258,_),(259,_),(260,_),(261,_),(262,_),(263,_),(264,_),(265,_)]) rfl ?_)))
    refine qQ (kZ rfl ?_)
    refine qF (kX (qQ (qC (.q 0 (.q 1 (.q 2 (.done)))) Kr ?_)))
    refine qK rfl rfl rfl rfl (qB rfl rfl rfl rfl rfl (cV _ (by exact kP Om Om)) ?_)
    refine qS rfl rfl rfl rfl (qR (qQ ?_))
    refine kJ (x:=k) (k+1) ?_ ?_ ?_ ?_
    · exact by show k+1≤x3.length+70;omega
    · show x3.length+70 - (k+1) < x3.length+70 - k;omega
    · exact ⟨rfl,rfl,rfl,trivial⟩
    · (try simp only [Ca,Na]);exact Tf
   refine qZ rfl rfl rfl rfl (qZ rfl rfl rfl rfl (qZ rfl rfl rfl rfl (qZ rfl rfl rfl rfl (qZ rfl rfl rfl rfl (qZ rfl rfl rfl rfl (qZ rfl rfl rfl rfl (qZ rfl rfl rfl rfl (qZ rfl rfl rfl rfl ?_))))))))
   refine qZ rfl rfl rfl rfl (qZ rfl rfl rfl rfl (qZ rfl rfl rfl rfl (qZ rfl rfl rfl rfl (qZ rfl rfl rfl rfl (kN rfl rfl rfl rfl rfl (kN rfl rfl rfl rfl rfl (qR (qW [0,15,16,239,240,241,242,243,244,245,246,247,248,249,250,251,252,253,254,255,256,257,258,259,260,261,262,263,264,265] (e':=[(0,_),(15,_),(16,_),(239,_),(240,_),(241,_),(242,_),(243,_),(244,_),(245,_),(246,_),(247,_),(248,_),(249,_),(250,_),(251,_),(252,_),(253,_),(254,_),(255,_),(256,_),(257,_),(258,_),(259,_),(260,_),(261,_),(262,_),(263,_),(264,_),(265,_)]) rfl ?_))))))))
   refine qQ (kZ rfl ?_)
   refine qF (kX (qQ (qC (.q 0 (.q 1 (.q 2 (.done)))) Kr ?_)))
   refine qK rfl rfl rfl rfl (qB rfl rfl rfl rfl rfl (cV _ (by exact kP Om Om)) ?_)
   refine qS rfl rfl rfl rfl (qR (qQ ?_))
   refine kJ (x:=k) (k+1) ?_ ?_ ?_ ?_
   · exact by show k+1≤x3.length+70;omega
   · show x3.length+70 - (k+1) < x3.length+70 - k;omega
   · exact ⟨rfl,rfl,rfl,trivial⟩
   · (try simp only [Ca,Na]);exact Tf
  refine cW (qY (qY (kK (kX (qQ (qC (.q 0 (.q 1 (.q 2 (.done)))) Kr ?_))))))
  refine qK rfl rfl rfl rfl (qB rfl rfl rfl rfl rfl (cV _ (by exact kP Om Om)) ?_)
  refine qS rfl rfl rfl rfl (qR (qW [0,15] (e':=[(0,_),(15,_)]) rfl ?_))
  refine qQ ?_
  refine kJ (x:=p) (p+1) ?_ ?_ ?_ ?_
  · exact by show p+1≤C.length;omega
  · show C.length - (p+1) < C.length - p;omega
  · exact ⟨rfl,rfl,trivial⟩
  · (try simp only [Ca,Na]);exact Tf
 refine cW (qY (qY (kK (qQ (qL (qL (qC (.q 0 (.done)) Kr ?_)))))))
 refine qS rfl rfl rfl rfl (qR (qQ (kC ?_)))
 refine cH (α:=Nat) (fun (p:Nat)=>p≤F.length) (fun (p:Nat)=>[(17,.int .i64 ((p:Nat):Int))]) (fun (p:Nat)=>[]) (fun (p:Nat)=>F.length - p) [0] (er:=[(0,_)]) rfl (0) ?_ (by exact ⟨rfl,trivial⟩) (by (try dsimp only);(try simp only [Ad,Zd]);(repeat ((with_reducible apply Z2);focus (first | (with_reducible (repeat (first | exact Z0 | apply Z1));done) | (repeat (first | exact Z0 | apply Z1)))));exact Z3) ?_
 · exact Nat.zero_le _
 rintro p hle_p
 try simp only [Ca,Na]
 have hml:=hMf.len
 have hmm:(MF.map (·.2)).length=MF.length:=List.length_map _
 refine qL (qL (qC (.q 0 (.q 1 (.q 2 (.q 3 (.q 4 (.q 5 (.q 6 (.done)))))))) Kr ?_))
 refine qK rfl rfl rfl rfl (qK rfl rfl rfl rfl (qX rfl rfl rfl rfl (qG (k:=6) rfl rfl rfl rfl υ'39 rfl ζ'37 rfl ?_)))
 refine qP (j:=6) rfl rfl rfl rfl α'37 Tk Az (by rfl) ?_
 refine cJ rfl rfl rfl rfl υ'37 ?_
 refine qB rfl rfl rfl rfl rfl (cB _ _ _ _) ?_
 refine qR (qW [0,17,272] (e':=[(0,_),(17,_),(272,_)]) rfl ?_)
 refine qQ ?_
 refine qD rfl (fun hlp=>?_) (fun hlp=>?_)
 ·
  try rw [List.length_map] at hlp
  obtain ⟨x,hx⟩:=cR (l:=F) (i:=p) Om
  obtain ⟨y,hy⟩:=cR (l:=MF) (i:=p) Om
  obtain ⟨a1,c1,x3⟩:=x
  obtain ⟨⟨b1,b2,b3⟩,⟨an,cn,l2⟩⟩:=y
  obtain ⟨hs1,hs2⟩:=hMf.at_ p _ _ hx hy
  simp only [Prod.mk.injEq] at hs1 hs2
  obtain ⟨rfl,rfl,rfl⟩:=hs1
  subst hs2
  have hxb:x3.length≤65535:=hbf _ (List.mem_of_getElem? hx)
  have hyM:=List.mem_of_getElem? hy
  have hyp:(MF.map (·.2))[p]?=some (an,cn,(mks (wmF p) x3.length++mks (wmF p) 70)):=by rw [List.getElem?_map,hy];rfl
  have hll:(mks (wmF p) x3.length++mks (wmF p) 70).length=x3.length+70:=by rw [List.length_append,mks_len,mks_len]
  refine s_f2A (M:=MF) Tk hy (mks_take _ _ _) fun hfx=>?_
  refine qF (qQ (qL (kC (qL (qC (.q 0 (.done)) Kr ?_)))))
  refine qS rfl rfl rfl rfl (qR (qQ (kC ?_)))
  refine cH (α:=Nat) (fun (k:Nat)=>k≤x3.length+70) (fun (k:Nat)=>[(18,.int .i64 ((k:Nat):Int))]) (fun (k:Nat)=>[]) (fun (k:Nat)=>x3.length+70 - k) [0,17] (er:=[(0,_),(17,_)]) rfl (0) ?_ (by exact ⟨rfl,trivial⟩) (by (try dsimp only);(try simp only [Ad,Zd]);(repeat ((with_reducible apply Z2);focus (first | (with_reducible (repeat (first | exact Z0 | apply Z1));done) | (repeat (first | exact Z0 | apply Z1)))));exact Z3) ?_
  · exact Nat.zero_le _
  rintro k hle_k
  try simp only [Ca,Na]
  refine qL (qL (qC (.q 0 (.q 1 (.q 2 (.q 3 (.q 4 (.q 5 (.q 6 (.q 7 (.q 8 (.q 9 (.done))))))))))) Kr ?_))
  refine qK rfl rfl rfl rfl (qK rfl rfl rfl rfl (qX rfl rfl rfl rfl (qG (k:=7) rfl rfl rfl rfl υ'39 rfl ζ'37 rfl ?_)))
  refine qP (j:=7) rfl rfl rfl rfl α'37 Tk Az (by rfl) ?_
  refine qK rfl rfl rfl rfl (kF (sz:=0) (k:=p) (enc:=encH) (xs:=(MF.map (·.2))) rfl rfl rfl rfl rfl υ'37 ζ'60 hyp (by first | rfl | omega) Om Tk ?_)
  intro ib281 io281 ha281 hl281 hc281
  refine kS (v:=(.slice an ((mks (wmF p) x3.length++mks (wmF p) 70).length) cn)) (j:=0) (k':=p) (enc:=encH) (off:=io281) rfl rfl rfl rfl α'60 ha281 sB hyp Tk (by first | rfl | exact (Ad _).symm | omega) (by rfl) ?_
  refine cJ rfl rfl rfl rfl υ'60 ?_
  refine qB rfl rfl rfl rfl rfl (cB _ _ _ _) ?_
  refine qR (qW [0,17,18,284] (e':=[(0,_),(17,_),(18,_),(284,_)]) rfl ?_)
  refine qQ ?_
  refine qD rfl (fun hlk=>?_) (fun hlk=>?_)
  ·
   have hlk2:k < x3.length+70:=by
     have h1:=hlk
     omega
   refine qF (qQ (qL (kC (qL (qC (.q 0 (.q 1 (.q 2 (.q 3 (.q 4 (.q 5 (.q 6 (.q 7 (.q 8 (.q 9 (.q 10 (.q 11 (.q 12 (.q 13 (.q 14 (.q 15 (.q 16 (.q 17 (.q 18 (.q 19 (.q 20 (.q 21 (.q 22 (.q 23 (.q 24 (.q 25 (.q 26 (.q 27 (.q 28 (.q 29 (.q 30 (.q 31 (.q 32 (.q 33 (.q 34 (.q 35 (.q 36 (.q 37 (.q 38 (.q 39 (.q 40 (.q 41 (.q 42 (.q 43 (.done))))))))))))))))))))))))))))))))))))))))))))) Kr ?_)))))
   refine qK rfl rfl rfl rfl (qX rfl rfl rfl rfl (qG (k:=7) rfl rfl rfl rfl υ'39 rfl ζ'37 rfl ?_))
   refine qP (j:=7) rfl rfl rfl rfl α'37 Tk Az (by rfl) ?_
   refine qK rfl rfl rfl rfl (kF (sz:=0) (k:=p) (enc:=encH) (xs:=(MF.map (·.2))) rfl rfl rfl rfl rfl υ'37 ζ'60 hyp (by first | rfl | omega) Om Tk ?_)
   intro ib292 io292 ha292 hl292 hc292
   refine kS (v:=(.slice an ((mks (wmF p) x3.length++mks (wmF p) 70).length) cn)) (j:=0) (k':=p) (enc:=encH) (off:=io292) rfl rfl rfl rfl α'60 ha292 sB hyp Tk (by first | rfl | exact (Ad _).symm | omega) (by rfl) ?_
   refine qK rfl rfl rfl rfl (q_idxR (sz:=1) (k:=k) rfl rfl rfl rfl rfl υ'60 ζ'63 (rds_big (f:=f2A 2 enc2) hyM (rds_app2_l enc2_len hfx.1.1 hfx.1.2)) (mk2_all (f:=wmF) (p:=p) (n:=x3.length) (m:=70) (k:=k) (fun _=>rfl) hlk2) enc2_len (by first | rfl | omega) Om ?_)
   intro ib295 io295 _ hd295
   refine qG (k:=0) rfl rfl rfl rfl υ'63 rfl ζ'3 rfl ?_
   refine q_load rfl rfl rfl rfl α'3 Tk (hd295 0 (.int .i64 ((wmF p k).1)) rfl) ?_
   refine qK rfl rfl rfl rfl (q_neg rfl rfl rfl rfl ?_)
   refine kB 299 rfl (v':=.int .i64 (-((p:Nat):Int))) (by rw [wrap_fits (by exact kP Om Om)];congr 1;omega) ?_
   refine qB rfl rfl rfl rfl rfl (b_sub' _ (by exact kP Om Om)) ?_
   refine qB rfl rfl rfl rfl rfl (b_neq _ _ _ _) ?_
   refine kB 301 rfl (v':=.bool false) (by refine congrArg Value.bool (decide_eq_false ?_);intro h9;exact h9 (by unfold wmF;first | omega | (dsimp only;omega))) ?_
   refine qK rfl rfl rfl rfl (qK rfl rfl rfl rfl (qK rfl rfl rfl rfl (qX rfl rfl rfl rfl (qG (k:=6) rfl rfl rfl rfl υ'39 rfl ζ'37 rfl ?_))))
   refine qP (j:=6) rfl rfl rfl rfl α'37 Tk Az (by rfl) ?_
   refine qK rfl rfl rfl rfl (kF (sz:=0) (k:=p) (enc:=encH) (xs:=F) rfl rfl rfl rfl rfl υ'37 ζ'60 hx (by first | rfl | omega) Om Tk ?_)
   intro ib309 io309 ha309 hl309 hc309
   refine kS (v:=(.slice b1 x3.length b2)) (j:=0) (k':=p) (enc:=encH) (off:=io309) rfl rfl rfl rfl α'60 ha309 sB hx Tk (by first | rfl | exact (Ad _).symm | omega) (by rfl) ?_
   refine cJ rfl rfl rfl rfl υ'60 ?_
   refine qB rfl rfl rfl rfl rfl (cB _ _ _ _) ?_
   refine qK rfl rfl rfl rfl ?_
   refine cF 313 rfl (fun hkn=>?_) (fun hkn=>?_)
   ·
    refine qK rfl rfl rfl rfl (qX rfl rfl rfl rfl (qG (k:=6) rfl rfl rfl rfl υ'39 rfl ζ'37 rfl ?_))
    refine qP (j:=6) rfl rfl rfl rfl α'37 Tk Az (by rfl) ?_
    refine qK rfl rfl rfl rfl (kF (sz:=0) (k:=p) (enc:=encH) (xs:=F) rfl rfl rfl rfl rfl υ'37 ζ'60 hx (by first | rfl | omega) Om Tk ?_)
    intro ib319 io319 ha319 hl319 hc319
    refine kS (v:=(.slice b1 x3.length b2)) (j:=0) (k':=p) (enc:=encH) (off:=io319) rfl rfl rfl rfl α'60 ha319 sB hx Tk (by first | rfl | exact (Ad _).symm | omega) (by rfl) ?_
    refine qK rfl rfl rfl rfl (q_idxR (sz:=1) (k:=k) rfl rfl rfl rfl rfl υ'60 ζ'63 (rds_big (f:=f2A 2 enc2) hyM (rds_app2_r enc2_len (mks_take _ _ _) hfx.2.1 hfx.2.2)) (mks_get (wmF p) (n:=x3.length) (k:=k) Om) enc2_len (by first | rfl | omega) Om ?_)
    intro ib322 io322 _ hd322
    refine qG (k:=0) rfl rfl rfl rfl υ'63 rfl ζ'3 rfl ?_
    refine q_load rfl rfl rfl rfl α'3 Tk (hd322 0 (.int .i64 ((wmF p k).1)) rfl) ?_
    refine qK rfl rfl rfl rfl (q_neg rfl rfl rfl rfl ?_)
    refine kB 326 rfl (v':=.int .i64 (-((p:Nat):Int))) (by rw [wrap_fits (by exact kP Om Om)];congr 1;omega) ?_
    refine qB rfl rfl rfl rfl rfl (b_sub' _ (by exact kP Om Om)) ?_
    refine qB rfl rfl rfl rfl rfl (b_neq _ _ _ _) ?_
    refine kB 328 rfl (v':=.bool false) (by refine congrArg Value.bool (decide_eq_false ?_);intro h9;exact h9 (by unfold wmF;first | omega | (dsimp only;omega))) ?_
    refine kW rfl rfl rfl rfl rfl (kN rfl rfl rfl rfl rfl (qR (qW [0,17,18,303,304,305,306,307,308,309,310,311,312,313,314,315,316,317,318,319,320,321,322,323,324,325,326,327,328,329,330] (e':=[(0,_),(17,_),(18,_),(303,_),(304,_),(305,_),(306,_),(307,_),(308,_),(309,_),(310,_),(311,_),(312,_),(313,_),(314,_),(315,_),(316,_),(317,_),(318,_),(319,_),(320,_),(321,_),(322,_),(323,_),(324,_),(325,_),(326,_),(327,_),(328,_),(329,_),(330,_)]) rfl ?_)))
    refine qQ (kZ rfl ?_)
    refine qF (kX (qQ (qC (.q 0 (.q 1 (.q 2 (.done)))) Kr ?_)))
    refine qK rfl rfl rfl rfl (qB rfl rfl rfl rfl rfl (cV _ (by exact kP Om Om)) ?_)
    refine qS rfl rfl rfl rfl (qR (qQ ?_))
    refine kJ (x:=k) (k+1) ?_ ?_ ?_ ?_
    · exact by show k+1≤x3.length+70;omega
    · show x3.length+70 - (k+1) < x3.length+70 - k;omega
    · exact ⟨rfl,rfl,rfl,trivial⟩
    · (try simp only [Ca,Na]);exact Tf
   refine qZ rfl rfl rfl rfl (qZ rfl rfl rfl rfl (qZ rfl rfl rfl rfl (qZ rfl rfl rfl rfl (qZ rfl rfl rfl rfl (qZ rfl rfl rfl rfl (qZ rfl rfl rfl rfl (qZ rfl rfl rfl rfl (qZ rfl rfl rfl rfl ?_))))))))
   refine qZ rfl rfl rfl rfl (qZ rfl rfl rfl rfl (qZ rfl rfl rfl rfl (qZ rfl rfl rfl rfl (qZ rfl rfl rfl rfl (qZ rfl rfl rfl rfl (kN rfl rfl rfl rfl rfl (kN rfl rfl rfl rfl rfl (qR ?_))))))))
   refine qW [0,17,18,303,304,305,306,307,308,309,310,311,312,313,314,315,316,317,318,319,320,321,322,323,324,325,326,327,328,329,330] (e':=[(0,_),(17,_),(18,_),(303,_),(304,_),(305,_),(306,_),(307,_),(308,_),(309,_),(310,_),(311,_),(312,_),(313,_),(314,_),(315,_),(316,_),(317,_),(318,_),(319,_),(320,_),(321,_),(322,_),(323,_),(324,_),(325,_),(326,_),(327,_),(328,_),(329,_),(330,_)]) rfl ?_
   refine qQ (kZ rfl ?_)
   refine qF (kX (qQ (qC (.q 0 (.q 1 (.q 2 (.done)))) Kr ?_)))
   refine qK rfl rfl rfl rfl (qB rfl rfl rfl rfl rfl (cV _ (by exact kP Om Om)) ?_)
   refine qS rfl rfl rfl rfl (qR (qQ ?_))
   refine kJ (x:=k) (k+1) ?_ ?_ ?_ ?_
   · exact by show k+1≤x3.length+70;omega
   · show x3.length+70 - (k+1) < x3.length+70 - k;omega
   · exact ⟨rfl,rfl,rfl,trivial⟩
   · (try simp only [Ca,Na]);exact Tf
  refine cW (qY (qY (kK (kX (qQ (qC (.q 0 (.q 1 (.q 2 (.done)))) Kr ?_))))))
  refine qK rfl rfl rfl rfl (qB rfl rfl rfl rfl rfl (cV _ (by exact kP Om Om)) ?_)
  refine qS rfl rfl rfl rfl (qR (qW [0,17] (e':=[(0,_),(17,_)]) rfl ?_))
  refine qQ ?_
  refine kJ (x:=p) (p+1) ?_ ?_ ?_ ?_
  · exact by show p+1≤F.length;omega
  · show F.length - (p+1) < F.length - p;omega
  · exact ⟨rfl,rfl,trivial⟩
  · (try simp only [Ca,Na]);exact Tf
 refine cW (qY (qY (kK (qQ (qL (qC (.q 0 (.done)) Kr ?_))))))
 refine qS rfl rfl rfl rfl (qR (qQ (qJ (kD rfl rfl (()) (by first | rfl | (first | rfl | (congr 1;done) | (congr 1 <;> first | rfl | omega | (simp;done) | (simp;omega)))) (by trivial) ?_))))
 exact Tf
end Go.Ab.Rv
set_option linter.unusedVariables false
set_option linter.unusedSimpArgs false
set_option maxRecDepth 100000
namespace Go.Ab.Rv
open Go Go.Proofs Go.Ab Go.Ab.Fe Go.Ab.Vc Go.Ab.Dj
/-- The table and what lies in its places. -/
structure TS where
  o0:Option Addr
  o1:Option Addr
  r0:Option Addr
  r1:Option Addr
  m0:Option DS
  m1:Option DS
  B:BK
structure TOk (pl:List Int) (n:Nat) (N:Int) (T:TS):Prop where
  m0:SOk pl N T.m0
  m1:SOk pl N T.m1
  B:BOk n T.B
theorem tmod_bds (a:Int):-2 < Int.tmod a 2∧Int.tmod a 2 < 2:=by
  rcases Int.le_total 0 a with h1 | h1
  · rw [Int.tmod_eq_emod_of_nonneg h1];omega
  · have e:Int.tmod a 2=-Int.tmod (-a) 2:=by rw [Int.neg_tmod];omega
    rw [e,Int.tmod_eq_emod_of_nonneg Om];omega
theorem tmod_two (a:Int):Int.tmod (Int.tmod a 2+2) 2=0∨Int.tmod (Int.tmod a 2+2) 2=1:=by
  have h:=tmod_bds a
  rw [Int.tmod_eq_emod_of_nonneg Om];omega
theorem own_front {α:Type} {sz:Nat} {enc:α→List Value} (hsz:∀ x,(enc x).length=sz) {ao:Option Addr} {cap:Nat} {l:List α} {z:α} (h2:ao=none→l++[z]=[]∧cap=0) (h3:ao≠none→∃ b off,ao=some ⟨b,off,none⟩):RdS (own sz enc ao cap (l++[z])) ao (l.flatMap enc):=by
  have:=rds_take (rR (cap:=cap) hsz (fun e=>(h2 e).1) h3) hsz l.length
  rwa [List.take_left] at this
theorem eqC_hh {pa:Option Addr} {pc:Nat} {po:Option Addr} {poc:Nat} {ao bo:Option Addr} {m:Option DS} {Γ Γ1 Γ2:List HProp} (tk1:Take Γ (hdP ao) Γ1) (tk2:Take Γ (ownP pa pc po poc bo m) Γ2) (hm:m≠none) (ha:ao≠none) (hne:ao≠bo) (h:Hp) (s:Sat Γ h) :
    ∃ a b k u fz,ao=some ⟨a,0,none⟩∧bo=some ⟨b,0,none⟩∧a≠b∧(∃ t,h (a,none)=some (.inr (.inr (t,k+1,0,0))))∧h (b,some 0)=some (.inl (u,fz)):=by
  obtain ⟨h1,l1,a1,-⟩:=tk1 _ s
  obtain ⟨h2,l2,a2,-⟩:=tk2 _ s
  cases m with
  | none=>exact absurd rfl hm
  | some x =>
    obtain ⟨b,rfl,vb,va,vc,V,hV,k1,m1,c1,-⟩:=a2
    cases ao with
    | none=>exact absurd rfl ha
    | some a =>
      obtain ⟨c,rfl,t,ht⟩:=a1 _ rfl
      exact ⟨c,b,2,_,_,rfl,rfl,fun e=>hne (by rw [e]),⟨t,l1 _ _ ht⟩,l2 _ _ (m1 _ _ (c1 0 _ rfl))⟩
theorem app_at {α:Type} (l:List α) (z:α):(l++[z])[l.length]?=some z:=by simp
theorem step0 (b:Nat) (o0 o1 r0 r1:Option Addr) (B:BK) (n_:Nat) (hB:BOk n_ B) (hn_:n_≤3999990) (pa:Option Addr) (pc:Nat) (po:Option Addr) (poc:Nat) (ra:Option Addr) (rc:Nat) (m0 m1:Option DS) (pl:List Int) (N:Int) (hN:N≤2000000000000) (hm0:SOk pl N m0) (hm1:SOk pl N m1) (kd on k t u z:Int) (es:List T3) (eo:Option Addr) (en ec:Nat) (A:HProp) (he:RdS A eo (es.flatMap enc3)) (hm:es.length=en) (hmb:en≤1500000) (hon:Int.tmod (Int.tmod on 2+2) 2=0):Spec Tryz.prog 6 [.pointer (some ⟨b,0,none⟩),.agg #[.int .i64 kd,.int .i64 on,.int .i64 k,.int .i64 t,.int .i64 u,.slice eo en ec,.int .i64 z]] [A,tabR b o0 o1 r0 r1 B,ownP pa pc po poc o0 m0,ownP pa pc po poc o1 m1,refP ra rc r0 m0,refP ra rc r1 m1,own 1 encZ pa pc pl,own 1 encZ po poc pl,own 1 encZ ra rc pl] (fun (T2:TS)=>.bool true) (fun T2=>TOk pl (n_+1) (N+1500000) T2) (fun T2=>[A,tabR b T2.o0 T2.o1 T2.r0 T2.r1 T2.B,ownP pa pc po poc T2.o0 T2.m0,ownP pa pc po poc T2.o1 T2.m1,refP ra rc T2.r0 T2.m0,refP ra rc T2.r1 T2.m1,own 1 encZ pa pc pl,own 1 encZ po poc pl,own 1 encZ ra rc pl]):=by
 refine kQ (n:=162) Tryz.func6 rfl rfl rfl ?_
 intro Γ w0
 simp only [argE,Ca,Na,Zd,Nat.reduceAdd]
 obtain ⟨hbl1,hbl2⟩:=bok_len hB
 have hbl3:=hB.cn
 have hbl4:=hB.fn
 refine qL (qC ((.l 0 [] (.q 1 (.done)))) Kr ?_)
 refine sP rfl rfl rfl rfl (us:=[_,_,_,_,_,_,_]) rfl ?_
 intro b3
 refine qV (qS rfl rfl rfl rfl (qR (qQ (qL (qC (.q 0 (.q 1 (.q 2 (.q 3 (.q 4 (.q 5 (.done))))))) Kr ?_)))))
 refine qG (k:=1) rfl rfl rfl rfl υ'50 rfl ζ'3 rfl ?_
 refine qP (j:=1) rfl rfl rfl rfl α'3 Tk Az (by rfl) ?_
 refine qB rfl rfl rfl rfl rfl (b_remT _ (by decide)) ?_
 have htm:=tmod_bds on
 refine qB rfl rfl rfl rfl rfl (cV _ (by exact kP Om Om)) ?_
 refine qB rfl rfl rfl rfl rfl (b_remT _ (by decide)) ?_
 refine qS rfl rfl rfl rfl (qR (kB 5 rfl (v':=.int .i64 0) (by rw [hon]) ?_))
 refine qW [0,3,5] (e':=[(0,_),(3,_),(5,_)]) rfl ?_
 refine qQ (qL (tab_open (b:=b) (B:=B) Tk fun ca cc wa wc fa fc ga gc=>?_))
 refine qC (.q 0 (.q 1 (.q 2 (.q 3 (.q 4 (.q 5 (.q 6 (.done)))))))) Kr ?_
 refine qK rfl rfl rfl rfl (qK rfl rfl rfl rfl (qX rfl rfl rfl rfl (qG (k:=0) rfl rfl rfl rfl υ'39 rfl ζ'34 rfl ?_)))
 refine q_idxA (k:=0) rfl rfl rfl rfl rfl υ'34 ζ'29 (by first | rfl | omega) (by decide) ?_
 refine qP (j:=0) rfl rfl rfl rfl Tryz.isAgg29 Tk Az (by rfl) ?_
 refine qS rfl rfl rfl rfl (qR (qW [0,3,5,6] (e':=[(0,_),(3,_),(5,_),(6,_)]) rfl ?_))
 refine qQ (qL (qC (.q 0 (.q 1 (.q 2 (.q 3 (.q 4 (.q 5 (.q 6 (.done)))))))) Kr ?_))
 refine qK rfl rfl rfl rfl (qK rfl rfl rfl rfl (qX rfl rfl rfl rfl (qG (k:=2) rfl rfl rfl rfl υ'39 rfl ζ'35 rfl ?_)))
 refine q_idxA (k:=0) rfl rfl rfl rfl rfl υ'35 ζ'30 (by first | rfl | omega) (by decide) ?_
 refine qP (j:=2) rfl rfl rfl rfl Tryz.isAgg30 Tk Az (by rfl) ?_
 refine qS rfl rfl rfl rfl (qR (qW [0,3,5,6,7] (e':=[(0,_),(3,_),(5,_),(6,_),(7,_)]) rfl ?_))
 refine qQ (qL (qL (tab_fold (b:=b) (o0:=o0) (o1:=o1) (r0:=r0) (r1:=r1) (C:=B.C) (W:=B.W) (F:=B.F) (G:=B.G) (ca:=ca) (cc:=cc) (wa:=wa) (wc:=wc) (fa:=fa) (fc:=fc) (ga:=ga) (gc:=gc) Ts rfl rfl rfl rfl ?_)))
 refine qC (.q 0 (.q 1 (.done))) Kr ?_
 refine qG (k:=0) rfl rfl rfl rfl υ'50 rfl ζ'3 rfl ?_
 refine qP (j:=0) rfl rfl rfl rfl α'3 Tk Az (by rfl) ?_
 refine qR (qQ (kC (qL (qC (.q 0 (.q 1 (.done))) Kr ?_))))
 refine qB rfl rfl rfl rfl rfl (cP _ _ _ _) ?_
 refine qS rfl rfl rfl rfl (qR (qQ ?_))
 refine qD rfl (fun hk0=>?_) (fun hk0=>?_)
 ·
  refine qL (kL rfl (.q 0 (.q 1 (.q 2 (.q 5 (.q 6 (.q 7 ((.l 3 [7] ((.l 4 [7] ((.l 8 [] (.q 9 (.q 10 (.done))))))))))))))) Kr ?_)
  refine qK rfl rfl rfl rfl (qG (k:=2) rfl rfl rfl rfl υ'50 rfl ζ'47 rfl ?_)
  refine kG rfl rfl rfl rfl α'47 ζ'47 Tk 2 (us:=[_,_,_]) Az rfl rfl ?_
  refine qK rfl rfl rfl rfl (qG (k:=2) rfl rfl rfl rfl υ'50 rfl ζ'47 rfl ?_)
  refine kG rfl rfl rfl rfl α'47 ζ'47 Tk 2 (us:=[_,_,_]) Az rfl rfl ?_
  have sp_1:=own_ev pa pc po poc o0 m0 pl N hN hm0 k t u
  refine qM rfl rfl rfl rfl rfl rfl κ'16 (sp_1) Ts ?_
  rintro ⟨⟩ -
  try simp only [Ca,Na]
  refine cX rfl rfl (us:=[_,_,_]) rfl α'47 ζ'47 Tk 2 Az rfl rfl ?_
  refine qV ?_
  have sp_2:=num_spec (sE m0 k t u)
  refine qM rfl rfl rfl rfl rfl rfl κ'11 (sp_2) Ts ?_
  rintro ⟨⟩ -
  try simp only [Ca,Na]
  refine cX rfl rfl (us:=[_,_,_]) rfl α'47 ζ'47 Tk 2 Az rfl rfl ?_
  refine qV ?_
  have sp_3:=ref_ev ra rc r0 m0 pl N hN hm0 k t u
  refine qM rfl rfl rfl rfl rfl rfl Tryz.call18 (sp_3) Ts ?_
  rintro ⟨⟩ -
  try simp only [Ca,Na]
  refine qV (qB rfl rfl rfl rfl rfl (cP _ _ _ _) ?_)
  refine kB 46 rfl (v':=.bool true) (by first | (rw [decide_eq_true rfl];done) | simp) ?_
  refine qS rfl rfl rfl rfl (qR (qW [4] (e':=[(4,_)]) rfl ?_))
  refine qQ (qJ (kM (qN (kD rfl rfl (⟨o0,o1,r0,r1,(m0.map fun x=>deF x k t u),m1,B⟩) (by first | rfl | (first | rfl | (congr 1;done) | (congr 1 <;> first | rfl | omega | (simp;done) | (simp;omega)))) (by exact ⟨sok_more (sok_map hm0 k t u) Om,sok_more hm1 Om,bok_more hB Om⟩) ?_))))
  exact Tf
 refine qL (qC (.q 0 (.q 1 (.done))) Kr ?_)
 refine qB rfl rfl rfl rfl rfl (cP _ _ _ _) ?_
 refine qS rfl rfl rfl rfl (qR (qW [0,3,5,6,7,34,47] (e':=[(0,_),(3,_),(5,_),(6,_),(7,_),(34,_),(47,_)]) rfl ?_))
 refine qQ ?_
 refine qD rfl (fun hk1=>?_) (fun hk1=>?_)
 ·
  refine qL (qC ((.l 0 [] (.q 1 (.q 2 ((.l 3 [] (.q 4 ((.l 5 [] ((.l 6 [] (.q 7 (.done))))))))))))) Kr ?_)
  refine rC rfl rfl rfl rfl υ'48 ζ'47 ?_
  intro b49
  refine qV (qG (k:=5) rfl rfl rfl rfl υ'50 rfl ζ'48 rfl ?_)
  refine qP (j:=5) rfl rfl rfl rfl α'48 Tk Az (by rfl) ?_
  refine cS (A:=cells b49 0 []) Tk ?_
  refine cQ (fun _ h=>own_mk (sz:=3) (enc:=enc3) (xs:=[]) (sp:=[]) (cap:=0) (Nat.le_refl _) rfl h) ?_
  refine sG (sz:=3) (enc:=enc3) (xs:=[]) rfl rfl rfl rfl rfl υ'48 τ'47 rfl rfl rfl (by decide) Tk Tk (by first | rfl | omega | (simp;done) | (simp;omega)) (ys:=es) (he) (by rfl) (by first | rfl | omega) (enc3_len) (enc3_one) Om (by show _*24≤_;omega) ?_
  intro ao52 cp52
  try simp only [Na]
  refine kB 52 rfl (v':=.slice ao52 en cp52) (by first | rfl | (congr 1;done) | (congr 1 <;> first | rfl | omega | (simp;done) | (simp;omega))) ?_
  refine qV (cC rfl rfl rfl rfl (vs:=[_,_,_]) (kV υ'47 ω'47 (ps:=[(0,1),(1,1),(2,1)]) ⟨rfl,ζ'45,rfl,ζ'3,rfl,ζ'3,trivial⟩ rfl) ?_)
  refine cL rfl rfl rfl rfl (sQ (us:=[_,_,_]) υ'48 ζ'47 rfl ω'47 rfl rfl rfl) ?_
  intro b54
  refine qV (sG (sz:=3) (enc:=enc3) (xs:=(es)) rfl rfl rfl rfl rfl υ'48 τ'47 rfl rfl rfl (by decide) Tk Tk (by first | rfl | omega | (simp;done) | (simp;omega)) (ys:=[(0,0,(-77))]) (sX sS) (by rfl) (by first | rfl | omega) (enc3_len) (enc3_one) Om (by show _*24≤_;omega) ?_)
  intro ao55 cp55
  refine qV (qS rfl rfl rfl rfl (qR (qW [3,6,7,8] (e':=[(3,_),(6,_),(7,_),(8,_)]) rfl ?_)))
  refine qQ (qL (qC (.q 0 (.q 1 (.q 2 (.q 3 (.q 4 (.q 5 ((.l 6 [] (.q 7 (.q 8 (.q 9 (.q 10 (.q 11 (.done)))))))))))))) Kr ?_))
  refine qK rfl rfl rfl rfl (qK rfl rfl rfl rfl (qG (k:=5) rfl rfl rfl rfl υ'50 rfl ζ'48 rfl ?_))
  refine qP (j:=5) rfl rfl rfl rfl α'48 Tk Az (by rfl) ?_
  refine cJ rfl rfl rfl rfl υ'48 ?_
  refine cS (A:=own 3 enc3 ao55 cp55 (es++[(((0:Int),(0:Int),(-77:Int)):T3)])) Tk ?_
  refine own_fc fun wt1 wt2 wt3=>?_
  have hwt1:=wt1
  simp only [List.length_append,List.length_singleton] at hwt1
  refine q_cut_hi (h':=en) rfl rfl rfl rfl rfl υ'48 ζ'47 (by first | rfl | omega) Om ?_
  refine cS (A:=own 3 enc3 ao55 cp55 ((es)++([(0,0,(-77))]))) Tk ?_
  refine own_fc fun f_4a f_4b f_4c=>?_
  have sp_5:=own_evs pa pc po poc o0 m0 pl N hN hm0 es ao55 en cp55 (own 3 enc3 ao55 cp55 (es++[(((0:Int),(0:Int),(-77:Int)):T3)])) ((own_front enc3_len wt2 wt3)) (by first | rfl | exact hm | omega) Om
  refine qM rfl rfl rfl rfl rfl rfl Tryz.call10 (sp_5) Ts ?_
  rintro i hi
  try simp only [Ca,Na]
  refine qV (qK rfl rfl rfl rfl (kY rfl rfl rfl rfl rfl (kY rfl rfl rfl rfl rfl (qS rfl rfl rfl rfl (qS rfl rfl rfl rfl (qR (qW [3,7,8,9,10] (e':=[(3,_),(7,_),(8,_),(9,_),(10,_)]) rfl ?_)))))))
  refine qQ (qL (qC (.q 0 (.q 1 (.q 2 ((.l 3 [] (.q 4 (.q 5 (.q 6 (.q 7 (.q 8 (.done))))))))))) Kr ?_))
  refine qK rfl rfl rfl rfl (qG (k:=5) rfl rfl rfl rfl υ'50 rfl ζ'48 rfl ?_)
  refine qP (j:=5) rfl rfl rfl rfl α'48 Tk Az (by rfl) ?_
  have sp_6:=ref_evs ra rc r0 m0 pl N hN hm0 es eo en ec A (he) (by first | rfl | exact hm | omega) Om
  refine qM rfl rfl rfl rfl rfl rfl Tryz.call19 (sp_6) Ts ?_
  rintro j hj
  try simp only [Ca,Na]
  refine qV (qK rfl rfl rfl rfl (kY rfl rfl rfl rfl rfl (kY rfl rfl rfl rfl rfl (qS rfl rfl rfl rfl (qS rfl rfl rfl rfl (qR ?_))))))
  obtain rfl:=evs_uniq hm hi hj
  refine qW [3,8,9,10,11,12] (e':=[(3,_),(8,_),(9,_),(10,_),(11,_),(12,_)]) rfl ?_
  refine qQ (qL (qL (qC (.q 0 (.done)) Kr ?_)))
  refine qS rfl rfl rfl rfl (qR (qQ (kC ?_)))
  refine cH (α:=Nat × List T3) (fun (x_:Nat × List T3)=>match x_ with | (y,f)=>y≤en∧(f.length=en+1)∧(f[en]?=some (((0:Int),(0:Int),(-77:Int)):T3))∧(∀ j:Nat,y≤j→j < en→f[j]?=es[j]?)) (fun (x_:Nat × List T3)=>match x_ with | (y,f)=>[(8,.slice ao55 (en+1) cp55),(13,.int .i64 ((y:Nat):Int))]) (fun (x_:Nat × List T3)=>match x_ with | (y,f)=>[own 3 enc3 ao55 cp55 f]) (fun (x_:Nat × List T3)=>match x_ with | (y,f)=>en - y) [3,9,10,11,12] (er:=[(3,_),(9,_),(10,_),(11,_),(12,_)]) rfl (0,(es++[(((0:Int),(0:Int),(-77:Int)):T3)])) ?_ (by exact ⟨rfl,rfl,trivial⟩) (by (try dsimp only);(try simp only [Ad,Zd]);(repeat ((with_reducible apply Z2);focus (first | (with_reducible (repeat (first | exact Z0 | apply Z1));done) | (repeat (first | exact Z0 | apply Z1)))));exact Z3) ?_
  · exact ⟨Nat.zero_le _,by rw [List.length_append,hm];rfl,by rw [← hm];exact app_at _ _,fun j _ hj=>List.getElem?_append_left Om⟩
  rintro ⟨y,f⟩ ⟨hle_y,hfl,hfe,hfq⟩
  try simp only [Ca,Na]
  refine qL (qL (qC (.q 0 (.q 1 (.q 2 (.q 3 (.q 4 (.done)))))) Kr ?_))
  refine qK rfl rfl rfl rfl (qG (k:=5) rfl rfl rfl rfl υ'50 rfl ζ'48 rfl ?_)
  refine qP (j:=5) rfl rfl rfl rfl α'48 Tk Az (by rfl) ?_
  refine cJ rfl rfl rfl rfl υ'48 ?_
  refine qB rfl rfl rfl rfl rfl (cB _ _ _ _) ?_
  refine qR (qW [3,8,9,10,11,12,13,77] (e':=[(3,_),(8,_),(9,_),(10,_),(11,_),(12,_),(13,_),(77,_)]) rfl ?_)
  refine qQ ?_
  refine qD rfl (fun hlt=>?_) (fun hlt=>?_)
  ·
   refine qF (qQ (qL (kC (qL (qL ?_)))))
   obtain ⟨p,hp⟩:=cR (l:=es) (i:=y) Om
   have hpf:f[y]?=some p:=(hfq y (Nat.le_refl _) Om).trans hp
   refine kL rfl (.q 0 (.q 1 (.q 2 (.q 3 (.q 4 (.q 5 (.q 6 (.q 7 (.q 8 (.q 9 (.done))))))))))) Kr ?_
   refine qK rfl rfl rfl rfl (qK rfl rfl rfl rfl (kF (sz:=2) (k:=y) (enc:=enc3) (xs:=f) rfl rfl rfl rfl rfl υ'48 ζ'47 hpf (by first | rfl | omega) Om Tk ?_))
   intro ib82 io82 ha82 hl82 hc82
   refine q_loadN_O (j:=0) (k':=y) (us:=[_,_,_]) (enc:=enc3) (off:=io82) rfl rfl rfl rfl α'47 ζ'47 ha82 enc3_len hpf Tk (by first | rfl | exact (Ad _).symm | omega) (by rfl) rfl ?_
   refine qG (k:=5) rfl rfl rfl rfl υ'50 rfl ζ'48 rfl ?_
   refine qP (j:=5) rfl rfl rfl rfl α'48 Tk Az (by rfl) ?_
   refine qK rfl rfl rfl rfl (q_idxR (sz:=2) (k:=y) rfl rfl rfl rfl rfl υ'48 ζ'47 (he) hp enc3_len (by first | rfl | omega) Om ?_)
   intro ib87 io87 _ hd87
   refine q_loadN (vs:=[_,_,_]) rfl rfl rfl rfl α'47 ζ'47 Tk (hd87) rfl ?_
   refine q_neS rfl rfl rfl rfl rfl Kr (eqc_struct υ'47 Kr (eqf_cons rfl α'45 rfl rfl (eqc_int υ'45) (eqf_cons rfl α'3 rfl rfl (eqc_int υ'3) (eqf_last rfl α'3 rfl rfl (eqc_int υ'3))))) ?_
   refine kB 89 rfl (v':=.bool (decide (p≠p))) (by first | (congr 1;done) | (congr 1;rw [Bool.eq_iff_iff];simp [Prod.ext_iff,and_assoc])) ?_
   refine kB 89 rfl (v':=.bool false) (by first | rfl | simp) ?_
   refine qR (qW [3,8,9,10,11,12,13,89] (e':=[(3,_),(8,_),(9,_),(10,_),(11,_),(12,_),(13,_),(89,_)]) rfl ?_)
   refine qQ (kZ rfl ?_)
   refine qF (qQ (qC (.q 0 (.q 1 (.q 2 (.q 3 ((.l 4 [] (.done))))))) Kr ?_))
   refine qK rfl rfl rfl rfl (qK rfl rfl rfl rfl (cC rfl rfl rfl rfl (vs:=[_,_,_]) (kV υ'47 ω'47 (ps:=[(0,1),(1,1),(2,1)]) ⟨rfl,ζ'45,rfl,ζ'3,rfl,ζ'3,trivial⟩ rfl) ?_))
   refine kF (sz:=2) (k:=y) (enc:=enc3) (xs:=f) rfl rfl rfl rfl rfl υ'48 ζ'47 hpf (by first | rfl | omega) Om Tk ?_
   intro ib93 io93 ha93 hl93 hc93
   refine sK (j:=0) (k:=y) (q:=((0,0,-78):T3)) (enc:=enc3) (off:=io93) rfl rfl rfl rfl ζ'47 (us:=[_,_,_]) rfl rfl rfl ha93 enc3_len hpf Tk (by first | rfl | exact (Ad _).symm | omega) (by first | decide | exact Nat.le_of_ble_eq_true rfl) (by rfl) ?_
   refine qV (qR (qW [3,8,9,10,11,12,13] (e':=[(3,_),(8,_),(9,_),(10,_),(11,_),(12,_),(13,_)]) rfl ?_))
   refine kX (qQ (qC (.q 0 (.q 1 (.q 2 (.done)))) Kr ?_))
   refine qK rfl rfl rfl rfl (qB rfl rfl rfl rfl rfl (cV _ (by exact kP Om Om)) ?_)
   refine qS rfl rfl rfl rfl (qR (qQ ?_))
   refine kJ (x:=(y,f)) ((y+1,f.set y (0,0,-78))) ?_ ?_ ?_ ?_
   · try dsimp only
     exact ⟨by omega,by rw [List.length_set];exact hfl,by rw [List.getElem?_set_ne Om];exact hfe,fun j h1 h2=>by rw [List.getElem?_set_ne Om];exact hfq j Om h2⟩
   · show en - (y+1) < en - y;omega
   · exact ⟨rfl,rfl,rfl,rfl,rfl,rfl,rfl,trivial⟩
   · (try simp only [Ca,Na]);exact Tf
  refine cW (qY (qY (kK (qQ (qL (qC (.q 0 (.q 1 (.q 2 (.q 3 (.q 4 ((.l 5 [] (.q 6 (.q 7 (.q 8 (.q 9 (.q 10 (.q 11 (.q 12 (.q 13 (.q 14 (.q 15 (.q 16 (.q 17 (.q 18 (.q 19 (.done)))))))))))))))))))))) Kr ?_))))))
  refine qK rfl rfl rfl rfl (qK rfl rfl rfl rfl (qB rfl rfl rfl rfl rfl (cP _ _ _ _) ?_))
  refine kB 96 rfl (v':=.bool true) (by first | (rw [decide_eq_true rfl];done) | simp) ?_
  refine qK rfl rfl rfl rfl (qK rfl rfl rfl rfl ?_)
  have sp_7:=num_spec (evsE m0 en i)
  refine qM rfl rfl rfl rfl rfl rfl κ'11 (sp_7) Ts ?_
  rintro ⟨⟩ -
  try simp only [Ca,Na]
  refine qV (qK rfl rfl rfl rfl (qB rfl rfl rfl rfl rfl (cP _ _ _ _) ?_))
  refine kB 101 rfl (v':=.bool true) (by first | (rw [decide_eq_true rfl];done) | simp) ?_
  refine kW rfl rfl rfl rfl rfl (qK rfl rfl rfl rfl (qK rfl rfl rfl rfl (qG (k:=5) rfl rfl rfl rfl υ'50 rfl ζ'48 rfl ?_)))
  refine qP (j:=5) rfl rfl rfl rfl α'48 Tk Az (by rfl) ?_
  refine cJ rfl rfl rfl rfl υ'48 ?_
  refine kF (sz:=2) (k:=en) (enc:=enc3) (xs:=f) rfl rfl rfl rfl rfl υ'48 ζ'47 hfe (by first | rfl | omega) Om Tk ?_
  intro ib108 io108 ha108 hl108 hc108
  refine q_loadN_O (j:=0) (k':=en) (us:=[_,_,_]) (enc:=enc3) (off:=io108) rfl rfl rfl rfl α'47 ζ'47 ha108 enc3_len hfe Tk (by first | rfl | exact (Ad _).symm | omega) (by rfl) rfl ?_
  refine cC rfl rfl rfl rfl (vs:=[_,_,_]) (kV υ'47 ω'47 (ps:=[(0,1),(1,1),(2,1)]) ⟨rfl,ζ'45,rfl,ζ'3,rfl,ζ'3,trivial⟩ rfl) ?_
  refine q_eqS rfl rfl rfl rfl rfl Kr (eqc_struct υ'47 Kr (eqf_cons rfl α'45 rfl rfl (eqc_int υ'45) (eqf_cons rfl α'3 rfl rfl (eqc_int υ'3) (eqf_last rfl α'3 rfl rfl (eqc_int υ'3))))) ?_
  refine kB 111 rfl (v':=.bool (decide ((((0:Int),(0:Int),(-77:Int)):T3)=(0,0,(-77))))) (by first | (congr 1;done) | (congr 1;rw [Bool.eq_iff_iff];simp [Prod.ext_iff,and_assoc])) ?_
  refine kB 111 rfl (v':=.bool true) (by first | (rw [decide_eq_true rfl];done) | simp) ?_
  refine kW rfl rfl rfl rfl rfl (qS rfl rfl rfl rfl (qR (qW [4] (e':=[(4,_)]) rfl ?_)))
  refine qQ (qJ (kM (qN ?_)))
  have htl:=List.length_take_le i es
  have hi1:=hi.1
  refine kD rfl rfl (⟨o0,o1,r0,r1,(m0.map fun x=>dAll x (es.take i)),m1,B⟩) (by first | rfl | (first | rfl | (congr 1;done) | (congr 1 <;> first | rfl | omega | (simp;done) | (simp;omega)))) (by exact ⟨sok_all hm0 (es.take i) Om,sok_more hm1 Om,bok_more hB Om⟩) ?_
  exact Tf
 refine qL (qC (.q 0 (.q 1 (.done))) Kr ?_)
 refine qB rfl rfl rfl rfl rfl (cP _ _ _ _) ?_
 refine qS rfl rfl rfl rfl (qR (qQ ?_))
 refine qD rfl (fun hk7=>?_) (fun hk7=>?_)
 ·
  refine qL (qC (.q 0 ((.l 1 [] (.q 2 (.done))))) Kr ?_)
  refine qK rfl rfl rfl rfl ?_
  have sp_8:=own_cy pa pc po poc o0 m0 pl N hN hm0
  refine qM rfl rfl rfl rfl rfl rfl Tryz.call20 (sp_8) Ts ?_
  rintro cq ⟨hc1,hc2⟩
  try simp only [Ca,Na]
  refine qV (qS rfl rfl rfl rfl (qR (qW [0,5,6,7,14] (e':=[(0,_),(5,_),(6,_),(7,_),(14,_)]) rfl ?_)))
  refine qQ (qL (qC (.q 0 ((.l 1 [] (.q 2 (.done))))) Kr ?_))
  refine qK rfl rfl rfl rfl ?_
  have sp_9:=ref_cy ra rc r0 m0 pl N hN hm0
  refine qM rfl rfl rfl rfl rfl rfl Tryz.call21 (sp_9) Ts ?_
  rintro dq hd1
  try simp only [Ca,Na]
  refine qV (qS rfl rfl rfl rfl (qR (qQ (qL (qL ?_)))))
  have hcd:cq.isNone=dq.isNone:=by rw [Bool.eq_iff_iff,Option.isNone_iff_eq_none,Option.isNone_iff_eq_none,hc1,hd1]
  refine qC (.q 0 (.q 1 (.q 2 (.q 3 (.q 4 (.q 5 (.q 6 (.q 7 (.q 8 (.q 9 (.q 10 ((.l 11 [] (.q 12 (.q 13 (.done)))))))))))))))) Kr ?_
  refine qK rfl rfl rfl rfl (cG rfl rfl rfl rfl υ'29 ?_)
  refine qK rfl rfl rfl rfl (cG rfl rfl rfl rfl υ'30 ?_)
  refine q_neb rfl rfl rfl rfl rfl υ'4 ?_
  refine kB 123 rfl (v':=.bool false) (by rw [hcd];simp) ?_
  refine qK rfl rfl rfl rfl (qK rfl rfl rfl rfl (q_ne_nil rfl rfl rfl rfl υ'29 ?_))
  refine qK rfl rfl rfl rfl ?_
  refine s_bool 127 rfl (fun hcn=>?_) (fun hcn=>?_)
  ·
   try simp only [Bool.and_eq_true,Bool.or_eq_true,Bool.not_eq_true',Bool.not_eq_false',Bool.and_eq_false_iff,Bool.or_eq_false_iff,decide_eq_true_eq,decide_eq_false_iff_not] at hcn
   have hcn2:cq≠none:=by intro e;rw [e] at hcn;simp at hcn
   refine qK rfl rfl rfl rfl (qK rfl rfl rfl rfl (l_eqC (j:=Tryz.t43) rfl rfl rfl rfl rfl υ'29 Kr (by decide) (eqC_hh (m:=m0) Tk Tk (fun e=>hcn2 (hc1.2 e)) hcn2 (hc2 hcn2)) ?_))
   refine qV (kW rfl rfl rfl rfl rfl (kN rfl rfl rfl rfl rfl (qR (qW [0,5,14,15,132] (e':=[(0,_),(5,_),(14,_),(15,_),(132,_)]) rfl ?_))))
   refine qQ (kZ rfl ?_)
   refine qF (qQ (qL (tab_open (b:=b) (B:=B) Tk fun ca cc wa wc fa fc ga gc=>?_)))
   refine qC (.q 0 (.q 1 (.q 2 (.q 3 (.q 4 (.q 5 (.q 6 ((.l 7 [] (.done)))))))))) Kr ?_
   refine qK rfl rfl rfl rfl (qK rfl rfl rfl rfl (qB rfl rfl rfl rfl rfl (b_sub' _ (by exact kP Om Om)) ?_))
   refine kB 135 rfl (v':=.int .i64 1) (by rfl) ?_
   refine qK rfl rfl rfl rfl (qX rfl rfl rfl rfl (qG (k:=0) rfl rfl rfl rfl υ'39 rfl ζ'34 rfl ?_))
   refine q_idxA (k:=1) rfl rfl rfl rfl rfl υ'34 ζ'29 (by first | rfl | omega) (by decide) ?_
   refine kH (j:=1) rfl rfl rfl rfl ζ'29 (us:=[_]) rfl rfl rfl Tk Az (by first | decide | (simp;done) | omega) ?_
   simp only [setL,List.set]
   refine qV (qR (qW [0,5,15] (e':=[(0,_),(5,_),(15,_)]) rfl ?_))
   refine qQ (qL (qC (.q 0 (.q 1 (.q 2 (.q 3 (.q 4 (.q 5 (.q 6 ((.l 7 [] (.done)))))))))) Kr ?_))
   refine qK rfl rfl rfl rfl (qK rfl rfl rfl rfl (qB rfl rfl rfl rfl rfl (b_sub' _ (by exact kP Om Om)) ?_))
   refine kB 142 rfl (v':=.int .i64 1) (by rfl) ?_
   refine qK rfl rfl rfl rfl (qX rfl rfl rfl rfl (qG (k:=2) rfl rfl rfl rfl υ'39 rfl ζ'35 rfl ?_))
   refine q_idxA (k:=1) rfl rfl rfl rfl rfl υ'35 ζ'30 (by first | rfl | omega) (by decide) ?_
   refine kH (j:=3) rfl rfl rfl rfl ζ'30 (us:=[_]) rfl rfl rfl Tk Az (by first | decide | (simp;done) | omega) ?_
   simp only [setL,List.set]
   refine qV (qR (qW [] (e':=[]) rfl ?_))
   refine qQ (qL (qC (.q 0 (.done)) Kr ?_))
   refine qS rfl rfl rfl rfl (qR (qQ (qJ (kM (qN (tab_fold (b:=b) (o0:=o0) (o1:=cq) (r0:=r0) (r1:=dq) (C:=B.C) (W:=B.W) (F:=B.F) (G:=B.G) (ca:=ca) (cc:=cc) (wa:=wa) (wc:=wc) (fa:=fa) (fc:=fc) (ga:=ga) (gc:=gc) Ts rfl rfl rfl rfl ?_))))))
   refine kD rfl rfl (⟨o0,cq,r0,dq,m0,m0,B⟩) (by first | rfl | (first | rfl | (congr 1;done) | (congr 1 <;> first | rfl | omega | (simp;done) | (simp;omega)))) (by exact ⟨sok_more hm0 Om,sok_more hm0 Om,bok_more hB Om⟩) ?_
   exact Tf
  try simp only [Bool.and_eq_true,Bool.or_eq_true,Bool.not_eq_true',Bool.not_eq_false',Bool.and_eq_false_iff,Bool.or_eq_false_iff,decide_eq_true_eq,decide_eq_false_iff_not] at hcn
  refine qZ rfl rfl rfl rfl (qZ rfl rfl rfl rfl (rS rfl rfl rfl rfl ?_))
  refine kN rfl rfl rfl rfl rfl (kN rfl rfl rfl rfl rfl (qR (qW [0,5,14,15,132] (e':=[(0,_),(5,_),(14,_),(15,_),(132,_)]) rfl ?_)))
  refine qQ (kZ rfl ?_)
  refine qF (qQ (qL (tab_open (b:=b) (B:=B) Tk fun ca cc wa wc fa fc ga gc=>?_)))
  refine qC (.q 0 (.q 1 (.q 2 (.q 3 (.q 4 (.q 5 (.q 6 ((.l 7 [] (.done)))))))))) Kr ?_
  refine qK rfl rfl rfl rfl (qK rfl rfl rfl rfl (qB rfl rfl rfl rfl rfl (b_sub' _ (by exact kP Om Om)) ?_))
  refine kB 135 rfl (v':=.int .i64 1) (by rfl) ?_
  refine qK rfl rfl rfl rfl (qX rfl rfl rfl rfl (qG (k:=0) rfl rfl rfl rfl υ'39 rfl ζ'34 rfl ?_))
  refine q_idxA (k:=1) rfl rfl rfl rfl rfl υ'34 ζ'29 (by first | rfl | omega) (by decide) ?_
  refine kH (j:=1) rfl rfl rfl rfl ζ'29 (us:=[_]) rfl rfl rfl Tk Az (by first | decide | (simp;done) | omega) ?_
  simp only [setL,List.set]
  refine qV (qR (qW [0,5,15] (e':=[(0,_),(5,_),(15,_)]) rfl ?_))
  refine qQ (qL (qC (.q 0 (.q 1 (.q 2 (.q 3 (.q 4 (.q 5 (.q 6 ((.l 7 [] (.done)))))))))) Kr ?_))
  refine qK rfl rfl rfl rfl (qK rfl rfl rfl rfl (qB rfl rfl rfl rfl rfl (b_sub' _ (by exact kP Om Om)) ?_))
  refine kB 142 rfl (v':=.int .i64 1) (by rfl) ?_
  refine qK rfl rfl rfl rfl (qX rfl rfl rfl rfl (qG (k:=2) rfl rfl rfl rfl υ'39 rfl ζ'35 rfl ?_))
  refine q_idxA (k:=1) rfl rfl rfl rfl rfl υ'35 ζ'30 (by first | rfl | omega) (by decide) ?_
  refine kH (j:=3) rfl rfl rfl rfl ζ'30 (us:=[_]) rfl rfl rfl Tk Az (by first | decide | (simp;done) | omega) ?_
  simp only [setL,List.set]
  refine qV (qR (qW [] (e':=[]) rfl ?_))
  refine qQ (qL (qC (.q 0 (.done)) Kr ?_))
  refine qS rfl rfl rfl rfl (qR (qQ (qJ (kM (qN (tab_fold (b:=b) (o0:=o0) (o1:=cq) (r0:=r0) (r1:=dq) (C:=B.C) (W:=B.W) (F:=B.F) (G:=B.G) (ca:=ca) (cc:=cc) (wa:=wa) (wc:=wc) (fa:=fa) (fc:=fc) (ga:=ga) (gc:=gc) Ts rfl rfl rfl rfl ?_))))))
  refine kD rfl rfl (⟨o0,cq,r0,dq,m0,m0,B⟩) (by first | rfl | (first | rfl | (congr 1;done) | (congr 1 <;> first | rfl | omega | (simp;done) | (simp;omega)))) (by exact ⟨sok_more hm0 Om,sok_more hm0 Om,bok_more hB Om⟩) ?_
  exact Tf
 refine qF (kX (qQ (qL (qC (.q 0 (.q 1 (.q 2 (.q 3 (.q 4 (.q 5 (.q 6 (.q 7 (.q 8 (.q 9 (.q 10 (.q 11 (.q 12 ((.l 13 [] (.q 14 (.q 15 (.done)))))))))))))))))) Kr ?_))))
 refine qG (k:=0) rfl rfl rfl rfl υ'50 rfl ζ'3 rfl ?_
 refine qP (j:=0) rfl rfl rfl rfl α'3 Tk Az (by rfl) ?_
 refine qB rfl rfl rfl rfl rfl (cB _ _ _ _) ?_
 refine qK rfl rfl rfl rfl ?_
 refine cF 150 rfl (fun hneg=>?_) (fun hneg=>?_)
 ·
  refine qZ rfl rfl rfl rfl (qZ rfl rfl rfl rfl (qZ rfl rfl rfl rfl (kW rfl rfl rfl rfl rfl (qK rfl rfl rfl rfl (qZ rfl rfl rfl rfl (qZ rfl rfl rfl rfl (qZ rfl rfl rfl rfl (qZ rfl rfl rfl rfl ?_))))))))
  refine rS rfl rfl rfl rfl ?_
  refine kW rfl rfl rfl rfl rfl (qS rfl rfl rfl rfl (qR (qW [4] (e':=[(4,_)]) rfl ?_)))
  refine qQ (qJ (kD rfl rfl (⟨o0,o1,r0,r1,m0,m1,B⟩) (by first | rfl | (first | rfl | (congr 1;done) | (congr 1 <;> first | rfl | omega | (simp;done) | (simp;omega)))) (by exact ⟨sok_more hm0 Om,sok_more hm1 Om,bok_more hB Om⟩) ?_))
  exact Tf
 refine qG (k:=0) rfl rfl rfl rfl υ'50 rfl ζ'3 rfl ?_
 refine qP (j:=0) rfl rfl rfl rfl α'3 Tk Az (by rfl) ?_
 refine qB rfl rfl rfl rfl rfl (b_geq _ _ _ _) ?_
 refine kN rfl rfl rfl rfl rfl (qK rfl rfl rfl rfl ?_)
 refine cF 155 rfl (fun hbig=>?_) (fun hbig=>?_)
 ·
  refine qZ rfl rfl rfl rfl (qZ rfl rfl rfl rfl (qZ rfl rfl rfl rfl (qZ rfl rfl rfl rfl (rS rfl rfl rfl rfl ?_))))
  refine kW rfl rfl rfl rfl rfl (qS rfl rfl rfl rfl (qR (qW [4] (e':=[(4,_)]) rfl ?_)))
  refine qQ (qJ (kD rfl rfl (⟨o0,o1,r0,r1,m0,m1,B⟩) (by first | rfl | (first | rfl | (congr 1;done) | (congr 1 <;> first | rfl | omega | (simp;done) | (simp;omega)))) (by exact ⟨sok_more hm0 Om,sok_more hm1 Om,bok_more hB Om⟩) ?_))
  exact Tf
 refine qK rfl rfl rfl rfl (kG rfl rfl rfl rfl α'50 ζ'50 Tk 0 (us:=[_,_,_,_,_,_,_]) Az rfl rfl ?_)
 refine qK rfl rfl rfl rfl (qK rfl rfl rfl rfl ?_)
 have sp_10:=tells_spec b o0 o1 r0 r1 B n_ hB hn_ pa pc po poc ra rc o0 r0 m0 pl N hN hm0 kd on k t u z eo en ec
 refine qM rfl rfl rfl rfl rfl rfl Tryz.call22 (sp_10) Ts ?_
 rintro B2 hB2
 try simp only [Ca,Na]
 refine qV (kN rfl rfl rfl rfl rfl (qS rfl rfl rfl rfl (qR (qW [4] (e':=[(4,_)]) rfl ?_))))
 refine qQ (qJ (kD rfl rfl (⟨o0,o1,r0,r1,m0,m1,B2⟩) (by first | rfl | (first | rfl | (congr 1;done) | (congr 1 <;> first | rfl | omega | (simp;done) | (simp;omega)))) (by exact ⟨sok_more hm0 Om,sok_more hm1 Om,hB2⟩) ?_))
 exact Tf
theorem step1 (b:Nat) (o0 o1 r0 r1:Option Addr) (B:BK) (n_:Nat) (hB:BOk n_ B) (hn_:n_≤3999990) (pa:Option Addr) (pc:Nat) (po:Option Addr) (poc:Nat) (ra:Option Addr) (rc:Nat) (m0 m1:Option DS) (pl:List Int) (N:Int) (hN:N≤2000000000000) (hm0:SOk pl N m0) (hm1:SOk pl N m1) (kd on k t u z:Int) (es:List T3) (eo:Option Addr) (en ec:Nat) (A:HProp) (he:RdS A eo (es.flatMap enc3)) (hm:es.length=en) (hmb:en≤1500000) (hon:Int.tmod (Int.tmod on 2+2) 2=1):Spec Tryz.prog 6 [.pointer (some ⟨b,0,none⟩),.agg #[.int .i64 kd,.int .i64 on,.int .i64 k,.int .i64 t,.int .i64 u,.slice eo en ec,.int .i64 z]] [A,tabR b o0 o1 r0 r1 B,ownP pa pc po poc o0 m0,ownP pa pc po poc o1 m1,refP ra rc r0 m0,refP ra rc r1 m1,own 1 encZ pa pc pl,own 1 encZ po poc pl,own 1 encZ ra rc pl] (fun (T2:TS)=>.bool true) (fun T2=>TOk pl (n_+1) (N+1500000) T2) (fun T2=>[A,tabR b T2.o0 T2.o1 T2.r0 T2.r1 T2.B,ownP pa pc po poc T2.o0 T2.m0,ownP pa pc po poc T2.o1 T2.m1,refP ra rc T2.r0 T2.m0,refP ra rc T2.r1 T2.m1,own 1 encZ pa pc pl,own 1 encZ po poc pl,own 1 encZ ra rc pl]):=by
 refine kQ (n:=162) Tryz.func6 rfl rfl rfl ?_
 intro Γ w0
 simp only [argE,Ca,Na,Zd,Nat.reduceAdd]
 obtain ⟨hbl1,hbl2⟩:=bok_len hB
 have hbl3:=hB.cn
 have hbl4:=hB.fn
 refine qL (qC ((.l 0 [] (.q 1 (.done)))) Kr ?_)
 refine sP rfl rfl rfl rfl (us:=[_,_,_,_,_,_,_]) rfl ?_
 intro b3
 refine qV (qS rfl rfl rfl rfl (qR (qQ (qL (qC (.q 0 (.q 1 (.q 2 (.q 3 (.q 4 (.q 5 (.done))))))) Kr ?_)))))
 refine qG (k:=1) rfl rfl rfl rfl υ'50 rfl ζ'3 rfl ?_
 refine qP (j:=1) rfl rfl rfl rfl α'3 Tk Az (by rfl) ?_
 refine qB rfl rfl rfl rfl rfl (b_remT _ (by decide)) ?_
 have htm:=tmod_bds on
 refine qB rfl rfl rfl rfl rfl (cV _ (by exact kP Om Om)) ?_
 refine qB rfl rfl rfl rfl rfl (b_remT _ (by decide)) ?_
 refine qS rfl rfl rfl rfl (qR (kB 5 rfl (v':=.int .i64 1) (by rw [hon]) ?_))
 refine qW [0,3,5] (e':=[(0,_),(3,_),(5,_)]) rfl ?_
 refine qQ (qL (tab_open (b:=b) (B:=B) Tk fun ca cc wa wc fa fc ga gc=>?_))
 refine qC (.q 0 (.q 1 (.q 2 (.q 3 (.q 4 (.q 5 (.q 6 (.done)))))))) Kr ?_
 refine qK rfl rfl rfl rfl (qK rfl rfl rfl rfl (qX rfl rfl rfl rfl (qG (k:=0) rfl rfl rfl rfl υ'39 rfl ζ'34 rfl ?_)))
 refine q_idxA (k:=1) rfl rfl rfl rfl rfl υ'34 ζ'29 (by first | rfl | omega) (by decide) ?_
 refine qP (j:=1) rfl rfl rfl rfl Tryz.isAgg29 Tk Az (by rfl) ?_
 refine qS rfl rfl rfl rfl (qR (qW [0,3,5,6] (e':=[(0,_),(3,_),(5,_),(6,_)]) rfl ?_))
 refine qQ (qL (qC (.q 0 (.q 1 (.q 2 (.q 3 (.q 4 (.q 5 (.q 6 (.done)))))))) Kr ?_))
 refine qK rfl rfl rfl rfl (qK rfl rfl rfl rfl (qX rfl rfl rfl rfl (qG (k:=2) rfl rfl rfl rfl υ'39 rfl ζ'35 rfl ?_)))
 refine q_idxA (k:=1) rfl rfl rfl rfl rfl υ'35 ζ'30 (by first | rfl | omega) (by decide) ?_
 refine qP (j:=3) rfl rfl rfl rfl Tryz.isAgg30 Tk Az (by rfl) ?_
 refine qS rfl rfl rfl rfl (qR (qW [0,3,5,6,7] (e':=[(0,_),(3,_),(5,_),(6,_),(7,_)]) rfl ?_))
 refine qQ (qL (qL (tab_fold (b:=b) (o0:=o0) (o1:=o1) (r0:=r0) (r1:=r1) (C:=B.C) (W:=B.W) (F:=B.F) (G:=B.G) (ca:=ca) (cc:=cc) (wa:=wa) (wc:=wc) (fa:=fa) (fc:=fc) (ga:=ga) (gc:=gc) Ts rfl rfl rfl rfl ?_)))
 refine qC (.q 0 (.q 1 (.done))) Kr ?_
 refine qG (k:=0) rfl rfl rfl rfl υ'50 rfl ζ'3 rfl ?_
 refine qP (j:=0) rfl rfl rfl rfl α'3 Tk Az (by rfl) ?_
 refine qR (qQ (kC (qL (qC (.q 0 (.q 1 (.done))) Kr ?_))))
 refine qB rfl rfl rfl rfl rfl (cP _ _ _ _) ?_
 refine qS rfl rfl rfl rfl (qR (qQ ?_))
 refine qD rfl (fun hk0=>?_) (fun hk0=>?_)
 ·
  refine qL (kL rfl (.q 0 (.q 1 (.q 2 (.q 5 (.q 6 (.q 7 ((.l 3 [7] ((.l 4 [7] ((.l 8 [] (.q 9 (.q 10 (.done))))))))))))))) Kr ?_)
  refine qK rfl rfl rfl rfl (qG (k:=2) rfl rfl rfl rfl υ'50 rfl ζ'47 rfl ?_)
  refine kG rfl rfl rfl rfl α'47 ζ'47 Tk 2 (us:=[_,_,_]) Az rfl rfl ?_
  refine qK rfl rfl rfl rfl (qG (k:=2) rfl rfl rfl rfl υ'50 rfl ζ'47 rfl ?_)
  refine kG rfl rfl rfl rfl α'47 ζ'47 Tk 2 (us:=[_,_,_]) Az rfl rfl ?_
  have sp_1:=own_ev pa pc po poc o1 m1 pl N hN hm1 k t u
  refine qM rfl rfl rfl rfl rfl rfl κ'16 (sp_1) Ts ?_
  rintro ⟨⟩ -
  try simp only [Ca,Na]
  refine cX rfl rfl (us:=[_,_,_]) rfl α'47 ζ'47 Tk 2 Az rfl rfl ?_
  refine qV ?_
  have sp_2:=num_spec (sE m1 k t u)
  refine qM rfl rfl rfl rfl rfl rfl κ'11 (sp_2) Ts ?_
  rintro ⟨⟩ -
  try simp only [Ca,Na]
  refine cX rfl rfl (us:=[_,_,_]) rfl α'47 ζ'47 Tk 2 Az rfl rfl ?_
  refine qV ?_
  have sp_3:=ref_ev ra rc r1 m1 pl N hN hm1 k t u
  refine qM rfl rfl rfl rfl rfl rfl Tryz.call18 (sp_3) Ts ?_
  rintro ⟨⟩ -
  try simp only [Ca,Na]
  refine qV (qB rfl rfl rfl rfl rfl (cP _ _ _ _) ?_)
  refine kB 46 rfl (v':=.bool true) (by first | (rw [decide_eq_true rfl];done) | simp) ?_
  refine qS rfl rfl rfl rfl (qR (qW [4] (e':=[(4,_)]) rfl ?_))
  refine qQ (qJ (kM (qN (kD rfl rfl (⟨o0,o1,r0,r1,m0,(m1.map fun x=>deF x k t u),B⟩) (by first | rfl | (first | rfl | (congr 1;done) | (congr 1 <;> first | rfl | omega | (simp;done) | (simp;omega)))) (by exact ⟨sok_more hm0 Om,sok_more (sok_map hm1 k t u) Om,bok_more hB Om⟩) ?_))))
  exact Tf
 refine qL (qC (.q 0 (.q 1 (.done))) Kr ?_)
 refine qB rfl rfl rfl rfl rfl (cP _ _ _ _) ?_
 refine qS rfl rfl rfl rfl (qR (qW [0,3,5,6,7,34,47] (e':=[(0,_),(3,_),(5,_),(6,_),(7,_),(34,_),(47,_)]) rfl ?_))
 refine qQ ?_
 refine qD rfl (fun hk1=>?_) (fun hk1=>?_)
 ·
  refine qL (qC ((.l 0 [] (.q 1 (.q 2 ((.l 3 [] (.q 4 ((.l 5 [] ((.l 6 [] (.q 7 (.done))))))))))))) Kr ?_)
  refine rC rfl rfl rfl rfl υ'48 ζ'47 ?_
  intro b49
  refine qV (qG (k:=5) rfl rfl rfl rfl υ'50 rfl ζ'48 rfl ?_)
  refine qP (j:=5) rfl rfl rfl rfl α'48 Tk Az (by rfl) ?_
  refine cS (A:=cells b49 0 []) Tk ?_
  refine cQ (fun _ h=>own_mk (sz:=3) (enc:=enc3) (xs:=[]) (sp:=[]) (cap:=0) (Nat.le_refl _) rfl h) ?_
  refine sG (sz:=3) (enc:=enc3) (xs:=[]) rfl rfl rfl rfl rfl υ'48 τ'47 rfl rfl rfl (by decide) Tk Tk (by first | rfl | omega | (simp;done) | (simp;omega)) (ys:=es) (he) (by rfl) (by first | rfl | omega) (enc3_len) (enc3_one) Om (by show _*24≤_;omega) ?_
  intro ao52 cp52
  try simp only [Na]
  refine kB 52 rfl (v':=.slice ao52 en cp52) (by first | rfl | (congr 1;done) | (congr 1 <;> first | rfl | omega | (simp;done) | (simp;omega))) ?_
  refine qV (cC rfl rfl rfl rfl (vs:=[_,_,_]) (kV υ'47 ω'47 (ps:=[(0,1),(1,1),(2,1)]) ⟨rfl,ζ'45,rfl,ζ'3,rfl,ζ'3,trivial⟩ rfl) ?_)
  refine cL rfl rfl rfl rfl (sQ (us:=[_,_,_]) υ'48 ζ'47 rfl ω'47 rfl rfl rfl) ?_
  intro b54
  refine qV (sG (sz:=3) (enc:=enc3) (xs:=(es)) rfl rfl rfl rfl rfl υ'48 τ'47 rfl rfl rfl (by decide) Tk Tk (by first | rfl | omega | (simp;done) | (simp;omega)) (ys:=[(0,0,(-77))]) (sX sS) (by rfl) (by first | rfl | omega) (enc3_len) (enc3_one) Om (by show _*24≤_;omega) ?_)
  intro ao55 cp55
  refine qV (qS rfl rfl rfl rfl (qR (qW [3,6,7,8] (e':=[(3,_),(6,_),(7,_),(8,_)]) rfl ?_)))
  refine qQ (qL (qC (.q 0 (.q 1 (.q 2 (.q 3 (.q 4 (.q 5 ((.l 6 [] (.q 7 (.q 8 (.q 9 (.q 10 (.q 11 (.done)))))))))))))) Kr ?_))
  refine qK rfl rfl rfl rfl (qK rfl rfl rfl rfl (qG (k:=5) rfl rfl rfl rfl υ'50 rfl ζ'48 rfl ?_))
  refine qP (j:=5) rfl rfl rfl rfl α'48 Tk Az (by rfl) ?_
  refine cJ rfl rfl rfl rfl υ'48 ?_
  refine cS (A:=own 3 enc3 ao55 cp55 (es++[(((0:Int),(0:Int),(-77:Int)):T3)])) Tk ?_
  refine own_fc fun wt1 wt2 wt3=>?_
  have hwt1:=wt1
  simp only [List.length_append,List.length_singleton] at hwt1
  refine q_cut_hi (h':=en) rfl rfl rfl rfl rfl υ'48 ζ'47 (by first | rfl | omega) Om ?_
  refine cS (A:=own 3 enc3 ao55 cp55 ((es)++([(0,0,(-77))]))) Tk ?_
  refine own_fc fun f_4a f_4b f_4c=>?_
  have sp_5:=own_evs pa pc po poc o1 m1 pl N hN hm1 es ao55 en cp55 (own 3 enc3 ao55 cp55 (es++[(((0:Int),(0:Int),(-77:Int)):T3)])) ((own_front enc3_len wt2 wt3)) (by first | rfl | exact hm | omega) Om
  refine qM rfl rfl rfl rfl rfl rfl Tryz.call10 (sp_5) Ts ?_
  rintro i hi
  try simp only [Ca,Na]
  refine qV (qK rfl rfl rfl rfl (kY rfl rfl rfl rfl rfl (kY rfl rfl rfl rfl rfl (qS rfl rfl rfl rfl (qS rfl rfl rfl rfl (qR (qW [3,7,8,9,10] (e':=[(3,_),(7,_),(8,_),(9,_),(10,_)]) rfl ?_)))))))
  refine qQ (qL (qC (.q 0 (.q 1 (.q 2 ((.l 3 [] (.q 4 (.q 5 (.q 6 (.q 7 (.q 8 (.done))))))))))) Kr ?_))
  refine qK rfl rfl rfl rfl (qG (k:=5) rfl rfl rfl rfl υ'50 rfl ζ'48 rfl ?_)
  refine qP (j:=5) rfl rfl rfl rfl α'48 Tk Az (by rfl) ?_
  have sp_6:=ref_evs ra rc r1 m1 pl N hN hm1 es eo en ec A (he) (by first | rfl | exact hm | omega) Om
  refine qM rfl rfl rfl rfl rfl rfl Tryz.call19 (sp_6) Ts ?_
  rintro j hj
  try simp only [Ca,Na]
  refine qV (qK rfl rfl rfl rfl (kY rfl rfl rfl rfl rfl (kY rfl rfl rfl rfl rfl (qS rfl rfl rfl rfl (qS rfl rfl rfl rfl (qR ?_))))))
  obtain rfl:=evs_uniq hm hi hj
  refine qW [3,8,9,10,11,12] (e':=[(3,_),(8,_),(9,_),(10,_),(11,_),(12,_)]) rfl ?_
  refine qQ (qL (qL (qC (.q 0 (.done)) Kr ?_)))
  refine qS rfl rfl rfl rfl (qR (qQ (kC ?_)))
  refine cH (α:=Nat × List T3) (fun (x_:Nat × List T3)=>match x_ with | (y,f)=>y≤en∧(f.length=en+1)∧(f[en]?=some (((0:Int),(0:Int),(-77:Int)):T3))∧(∀ j:Nat,y≤j→j < en→f[j]?=es[j]?)) (fun (x_:Nat × List T3)=>match x_ with | (y,f)=>[(8,.slice ao55 (en+1) cp55),(13,.int .i64 ((y:Nat):Int))]) (fun (x_:Nat × List T3)=>match x_ with | (y,f)=>[own 3 enc3 ao55 cp55 f]) (fun (x_:Nat × List T3)=>match x_ with | (y,f)=>en - y) [3,9,10,11,12] (er:=[(3,_),(9,_),(10,_),(11,_),(12,_)]) rfl (0,(es++[(((0:Int),(0:Int),(-77:Int)):T3)])) ?_ (by exact ⟨rfl,rfl,trivial⟩) (by (try dsimp only);(try simp only [Ad,Zd]);(repeat ((with_reducible apply Z2);focus (first | (with_reducible (repeat (first | exact Z0 | apply Z1));done) | (repeat (first | exact Z0 | apply Z1)))));exact Z3) ?_
  · exact ⟨Nat.zero_le _,by rw [List.length_append,hm];rfl,by rw [← hm];exact app_at _ _,fun j _ hj=>List.getElem?_append_left Om⟩
  rintro ⟨y,f⟩ ⟨hle_y,hfl,hfe,hfq⟩
  try simp only [Ca,Na]
  refine qL (qL (qC (.q 0 (.q 1 (.q 2 (.q 3 (.q 4 (.done)))))) Kr ?_))
  refine qK rfl rfl rfl rfl (qG (k:=5) rfl rfl rfl rfl υ'50 rfl ζ'48 rfl ?_)
  refine qP (j:=5) rfl rfl rfl rfl α'48 Tk Az (by rfl) ?_
  refine cJ rfl rfl rfl rfl υ'48 ?_
  refine qB rfl rfl rfl rfl rfl (cB _ _ _ _) ?_
  refine qR (qW [3,8,9,10,11,12,13,77] (e':=[(3,_),(8,_),(9,_),(10,_),(11,_),(12,_),(13,_),(77,_)]) rfl ?_)
  refine qQ ?_
  refine qD rfl (fun hlt=>?_) (fun hlt=>?_)
  ·
   refine qF (qQ (qL (kC (qL (qL ?_)))))
   obtain ⟨p,hp⟩:=cR (l:=es) (i:=y) Om
   have hpf:f[y]?=some p:=(hfq y (Nat.le_refl _) Om).trans hp
   refine kL rfl (.q 0 (.q 1 (.q 2 (.q 3 (.q 4 (.q 5 (.q 6 (.q 7 (.q 8 (.q 9 (.done))))))))))) Kr ?_
   refine qK rfl rfl rfl rfl (qK rfl rfl rfl rfl (kF (sz:=2) (k:=y) (enc:=enc3) (xs:=f) rfl rfl rfl rfl rfl υ'48 ζ'47 hpf (by first | rfl | omega) Om Tk ?_))
   intro ib82 io82 ha82 hl82 hc82
   refine q_loadN_O (j:=0) (k':=y) (us:=[_,_,_]) (enc:=enc3) (off:=io82) rfl rfl rfl rfl α'47 ζ'47 ha82 enc3_len hpf Tk (by first | rfl | exact (Ad _).symm | omega) (by rfl) rfl ?_
   refine qG (k:=5) rfl rfl rfl rfl υ'50 rfl ζ'48 rfl ?_
   refine qP (j:=5) rfl rfl rfl rfl α'48 Tk Az (by rfl) ?_
   refine qK rfl rfl rfl rfl (q_idxR (sz:=2) (k:=y) rfl rfl rfl rfl rfl υ'48 ζ'47 (he) hp enc3_len (by first | rfl | omega) Om ?_)
   intro ib87 io87 _ hd87
   refine q_loadN (vs:=[_,_,_]) rfl rfl rfl rfl α'47 ζ'47 Tk (hd87) rfl ?_
   refine q_neS rfl rfl rfl rfl rfl Kr (eqc_struct υ'47 Kr (eqf_cons rfl α'45 rfl rfl (eqc_int υ'45) (eqf_cons rfl α'3 rfl rfl (eqc_int υ'3) (eqf_last rfl α'3 rfl rfl (eqc_int υ'3))))) ?_
   refine kB 89 rfl (v':=.bool (decide (p≠p))) (by first | (congr 1;done) | (congr 1;rw [Bool.eq_iff_iff];simp [Prod.ext_iff,and_assoc])) ?_
   refine kB 89 rfl (v':=.bool false) (by first | rfl | simp) ?_
   refine qR (qW [3,8,9,10,11,12,13,89] (e':=[(3,_),(8,_),(9,_),(10,_),(11,_),(12,_),(13,_),(89,_)]) rfl ?_)
   refine qQ (kZ rfl ?_)
   refine qF (qQ (qC (.q 0 (.q 1 (.q 2 (.q 3 ((.l 4 [] (.done))))))) Kr ?_))
   refine qK rfl rfl rfl rfl (qK rfl rfl rfl rfl (cC rfl rfl rfl rfl (vs:=[_,_,_]) (kV υ'47 ω'47 (ps:=[(0,1),(1,1),(2,1)]) ⟨rfl,ζ'45,rfl,ζ'3,rfl,ζ'3,trivial⟩ rfl) ?_))
   refine kF (sz:=2) (k:=y) (enc:=enc3) (xs:=f) rfl rfl rfl rfl rfl υ'48 ζ'47 hpf (by first | rfl | omega) Om Tk ?_
   intro ib93 io93 ha93 hl93 hc93
   refine sK (j:=0) (k:=y) (q:=((0,0,-78):T3)) (enc:=enc3) (off:=io93) rfl rfl rfl rfl ζ'47 (us:=[_,_,_]) rfl rfl rfl ha93 enc3_len hpf Tk (by first | rfl | exact (Ad _).symm | omega) (by first | decide | exact Nat.le_of_ble_eq_true rfl) (by rfl) ?_
   refine qV (qR (qW [3,8,9,10,11,12,13] (e':=[(3,_),(8,_),(9,_),(10,_),(11,_),(12,_),(13,_)]) rfl ?_))
   refine kX (qQ (qC (.q 0 (.q 1 (.q 2 (.done)))) Kr ?_))
   refine qK rfl rfl rfl rfl (qB rfl rfl rfl rfl rfl (cV _ (by exact kP Om Om)) ?_)
   refine qS rfl rfl rfl rfl (qR (qQ ?_))
   refine kJ (x:=(y,f)) ((y+1,f.set y (0,0,-78))) ?_ ?_ ?_ ?_
   · try dsimp only
     exact ⟨by omega,by rw [List.length_set];exact hfl,by rw [List.getElem?_set_ne Om];exact hfe,fun j h1 h2=>by rw [List.getElem?_set_ne Om];exact hfq j Om h2⟩
   · show en - (y+1) < en - y;omega
   · exact ⟨rfl,rfl,rfl,rfl,rfl,rfl,rfl,trivial⟩
   · (try simp only [Ca,Na]);exact Tf
  refine cW (qY (qY (kK (qQ (qL (qC (.q 0 (.q 1 (.q 2 (.q 3 (.q 4 ((.l 5 [] (.q 6 (.q 7 (.q 8 (.q 9 (.q 10 (.q 11 (.q 12 (.q 13 (.q 14 (.q 15 (.q 16 (.q 17 (.q 18 (.q 19 (.done)))))))))))))))))))))) Kr ?_))))))
  refine qK rfl rfl rfl rfl (qK rfl rfl rfl rfl (qB rfl rfl rfl rfl rfl (cP _ _ _ _) ?_))
  refine kB 96 rfl (v':=.bool true) (by first | (rw [decide_eq_true rfl];done) | simp) ?_
  refine qK rfl rfl rfl rfl (qK rfl rfl rfl rfl ?_)
  have sp_7:=num_spec (evsE m1 en i)
  refine qM rfl rfl rfl rfl rfl rfl κ'11 (sp_7) Ts ?_
  rintro ⟨⟩ -
  try simp only [Ca,Na]
  refine qV (qK rfl rfl rfl rfl (qB rfl rfl rfl rfl rfl (cP _ _ _ _) ?_))
  refine kB 101 rfl (v':=.bool true) (by first | (rw [decide_eq_true rfl];done) | simp) ?_
  refine kW rfl rfl rfl rfl rfl (qK rfl rfl rfl rfl (qK rfl rfl rfl rfl (qG (k:=5) rfl rfl rfl rfl υ'50 rfl ζ'48 rfl ?_)))
  refine qP (j:=5) rfl rfl rfl rfl α'48 Tk Az (by rfl) ?_
  refine cJ rfl rfl rfl rfl υ'48 ?_
  refine kF (sz:=2) (k:=en) (enc:=enc3) (xs:=f) rfl rfl rfl rfl rfl υ'48 ζ'47 hfe (by first | rfl | omega) Om Tk ?_
  intro ib108 io108 ha108 hl108 hc108
  refine q_loadN_O (j:=0) (k':=en) (us:=[_,_,_]) (enc:=enc3) (off:=io108) rfl rfl rfl rfl α'47 ζ'47 ha108 enc3_len hfe Tk (by first | rfl | exact (Ad _).symm | omega) (by rfl) rfl ?_
  refine cC rfl rfl rfl rfl (vs:=[_,_,_]) (kV υ'47 ω'47 (ps:=[(0,1),(1,1),(2,1)]) ⟨rfl,ζ'45,rfl,ζ'3,rfl,ζ'3,trivial⟩ rfl) ?_
  refine q_eqS rfl rfl rfl rfl rfl Kr (eqc_struct υ'47 Kr (eqf_cons rfl α'45 rfl rfl (eqc_int υ'45) (eqf_cons rfl α'3 rfl rfl (eqc_int υ'3) (eqf_last rfl α'3 rfl rfl (eqc_int υ'3))))) ?_
  refine kB 111 rfl (v':=.bool (decide ((((0:Int),(0:Int),(-77:Int)):T3)=(0,0,(-77))))) (by first | (congr 1;done) | (congr 1;rw [Bool.eq_iff_iff];simp [Prod.ext_iff,and_assoc])) ?_
  refine kB 111 rfl (v':=.bool true) (by first | (rw [decide_eq_true rfl];done) | simp) ?_
  refine kW rfl rfl rfl rfl rfl (qS rfl rfl rfl rfl (qR (qW [4] (e':=[(4,_)]) rfl ?_)))
  refine qQ (qJ (kM (qN ?_)))
  have htl:=List.length_take_le i es
  have hi1:=hi.1
  refine kD rfl rfl (⟨o0,o1,r0,r1,m0,(m1.map fun x=>dAll x (es.take i)),B⟩) (by first | rfl | (first | rfl | (congr 1;done) | (congr 1 <;> first | rfl | omega | (simp;done) | (simp;omega)))) (by exact ⟨sok_more hm0 Om,sok_all hm1 (es.take i) Om,bok_more hB Om⟩) ?_
  exact Tf
 refine qL (qC (.q 0 (.q 1 (.done))) Kr ?_)
 refine qB rfl rfl rfl rfl rfl (cP _ _ _ _) ?_
 refine qS rfl rfl rfl rfl (qR (qQ ?_))
 refine qD rfl (fun hk7=>?_) (fun hk7=>?_)
 ·
  refine qL (qC (.q 0 ((.l 1 [] (.q 2 (.done))))) Kr ?_)
  refine qK rfl rfl rfl rfl ?_
  have sp_8:=own_cy pa pc po poc o1 m1 pl N hN hm1
  refine qM rfl rfl rfl rfl rfl rfl Tryz.call20 (sp_8) Ts ?_
  rintro cq ⟨hc1,hc2⟩
  try simp only [Ca,Na]
  refine qV (qS rfl rfl rfl rfl (qR (qW [0,5,6,7,14] (e':=[(0,_),(5,_),(6,_),(7,_),(14,_)]) rfl ?_)))
  refine qQ (qL (qC (.q 0 ((.l 1 [] (.q 2 (.done))))) Kr ?_))
  refine qK rfl rfl rfl rfl ?_
  have sp_9:=ref_cy ra rc r1 m1 pl N hN hm1
  refine qM rfl rfl rfl rfl rfl rfl Tryz.call21 (sp_9) Ts ?_
  rintro dq hd1
  try simp only [Ca,Na]
  refine qV (qS rfl rfl rfl rfl (qR (qQ (qL (qL ?_)))))
  have hcd:cq.isNone=dq.isNone:=by rw [Bool.eq_iff_iff,Option.isNone_iff_eq_none,Option.isNone_iff_eq_none,hc1,hd1]
  refine qC (.q 0 (.q 1 (.q 2 (.q 3 (.q 4 (.q 5 (.q 6 (.q 7 (.q 8 (.q 9 (.q 10 ((.l 11 [] (.q 12 (.q 13 (.done)))))))))))))))) Kr ?_
  refine qK rfl rfl rfl rfl (cG rfl rfl rfl rfl υ'29 ?_)
  refine qK rfl rfl rfl rfl (cG rfl rfl rfl rfl υ'30 ?_)
  refine q_neb rfl rfl rfl rfl rfl υ'4 ?_
  refine kB 123 rfl (v':=.bool false) (by rw [hcd];simp) ?_
  refine qK rfl rfl rfl rfl (qK rfl rfl rfl rfl (q_ne_nil rfl rfl rfl rfl υ'29 ?_))
  refine qK rfl rfl rfl rfl ?_
  refine s_bool 127 rfl (fun hcn=>?_) (fun hcn=>?_)
  ·
   try simp only [Bool.and_eq_true,Bool.or_eq_true,Bool.not_eq_true',Bool.not_eq_false',Bool.and_eq_false_iff,Bool.or_eq_false_iff,decide_eq_true_eq,decide_eq_false_iff_not] at hcn
   have hcn2:cq≠none:=by intro e;rw [e] at hcn;simp at hcn
   refine qK rfl rfl rfl rfl (qK rfl rfl rfl rfl (l_eqC (j:=Tryz.t43) rfl rfl rfl rfl rfl υ'29 Kr (by decide) (eqC_hh (m:=m1) Tk Tk (fun e=>hcn2 (hc1.2 e)) hcn2 (hc2 hcn2)) ?_))
   refine qV (kW rfl rfl rfl rfl rfl (kN rfl rfl rfl rfl rfl (qR (qW [0,5,14,15,132] (e':=[(0,_),(5,_),(14,_),(15,_),(132,_)]) rfl ?_))))
   refine qQ (kZ rfl ?_)
   refine qF (qQ (qL (tab_open (b:=b) (B:=B) Tk fun ca cc wa wc fa fc ga gc=>?_)))
   refine qC (.q 0 (.q 1 (.q 2 (.q 3 (.q 4 (.q 5 (.q 6 ((.l 7 [] (.done)))))))))) Kr ?_
   refine qK rfl rfl rfl rfl (qK rfl rfl rfl rfl (qB rfl rfl rfl rfl rfl (b_sub' _ (by exact kP Om Om)) ?_))
   refine kB 135 rfl (v':=.int .i64 0) (by rfl) ?_
   refine qK rfl rfl rfl rfl (qX rfl rfl rfl rfl (qG (k:=0) rfl rfl rfl rfl υ'39 rfl ζ'34 rfl ?_))
   refine q_idxA (k:=0) rfl rfl rfl rfl rfl υ'34 ζ'29 (by first | rfl | omega) (by decide) ?_
   refine kH (j:=0) rfl rfl rfl rfl ζ'29 (us:=[_]) rfl rfl rfl Tk Az (by first | decide | (simp;done) | omega) ?_
   simp only [setL,List.set]
   refine qV (qR (qW [0,5,15] (e':=[(0,_),(5,_),(15,_)]) rfl ?_))
   refine qQ (qL (qC (.q 0 (.q 1 (.q 2 (.q 3 (.q 4 (.q 5 (.q 6 ((.l 7 [] (.done)))))))))) Kr ?_))
   refine qK rfl rfl rfl rfl (qK rfl rfl rfl rfl (qB rfl rfl rfl rfl rfl (b_sub' _ (by exact kP Om Om)) ?_))
   refine kB 142 rfl (v':=.int .i64 0) (by rfl) ?_
   refine qK rfl rfl rfl rfl (qX rfl rfl rfl rfl (qG (k:=2) rfl rfl rfl rfl υ'39 rfl ζ'35 rfl ?_))
   refine q_idxA (k:=0) rfl rfl rfl rfl rfl υ'35 ζ'30 (by first | rfl | omega) (by decide) ?_
   refine kH (j:=2) rfl rfl rfl rfl ζ'30 (us:=[_]) rfl rfl rfl Tk Az (by first | decide | (simp;done) | omega) ?_
   simp only [setL,List.set]
   refine qV (qR (qW [] (e':=[]) rfl ?_))
   refine qQ (qL (qC (.q 0 (.done)) Kr ?_))
   refine qS rfl rfl rfl rfl (qR (qQ (qJ (kM (qN (tab_fold (b:=b) (o0:=cq) (o1:=o1) (r0:=dq) (r1:=r1) (C:=B.C) (W:=B.W) (F:=B.F) (G:=B.G) (ca:=ca) (cc:=cc) (wa:=wa) (wc:=wc) (fa:=fa) (fc:=fc) (ga:=ga) (gc:=gc) Ts rfl rfl rfl rfl ?_))))))
   refine kD rfl rfl (⟨cq,o1,dq,r1,m1,m1,B⟩) (by first | rfl | (first | rfl | (congr 1;done) | (congr 1 <;> first | rfl | omega | (simp;done) | (simp;omega)))) (by exact ⟨sok_more hm1 Om,sok_more hm1 Om,bok_more hB Om⟩) ?_
   exact Tf
  try simp only [Bool.and_eq_true,Bool.or_eq_true,Bool.not_eq_true',Bool.not_eq_false',Bool.and_eq_false_iff,Bool.or_eq_false_iff,decide_eq_true_eq,decide_eq_false_iff_not] at hcn
  refine qZ rfl rfl rfl rfl (qZ rfl rfl rfl rfl (rS rfl rfl rfl rfl ?_))
  refine kN rfl rfl rfl rfl rfl (kN rfl rfl rfl rfl rfl (qR (qW [0,5,14,15,132] (e':=[(0,_),(5,_),(14,_),(15,_),(132,_)]) rfl ?_)))
  refine qQ (kZ rfl ?_)
  refine qF (qQ (qL (tab_open (b:=b) (B:=B) Tk fun ca cc wa wc fa fc ga gc=>?_)))
  refine qC (.q 0 (.q 1 (.q 2 (.q 3 (.q 4 (.q 5 (.q 6 ((.l 7 [] (.done)))))))))) Kr ?_
  refine qK rfl rfl rfl rfl (qK rfl rfl rfl rfl (qB rfl rfl rfl rfl rfl (b_sub' _ (by exact kP Om Om)) ?_))
  refine kB 135 rfl (v':=.int .i64 0) (by rfl) ?_
  refine qK rfl rfl rfl rfl (qX rfl rfl rfl rfl (qG (k:=0) rfl rfl rfl rfl υ'39 rfl ζ'34 rfl ?_))
  refine q_idxA (k:=0) rfl rfl rfl rfl rfl υ'34 ζ'29 (by first | rfl | omega) (by decide) ?_
  refine kH (j:=0) rfl rfl rfl rfl ζ'29 (us:=[_]) rfl rfl rfl Tk Az (by first | decide | (simp;done) | omega) ?_
  simp only [setL,List.set]
  refine qV (qR (qW [0,5,15] (e':=[(0,_),(5,_),(15,_)]) rfl ?_))
  refine qQ (qL (qC (.q 0 (.q 1 (.q 2 (.q 3 (.q 4 (.q 5 (.q 6 ((.l 7 [] (.done)))))))))) Kr ?_))
  refine qK rfl rfl rfl rfl (qK rfl rfl rfl rfl (qB rfl rfl rfl rfl rfl (b_sub' _ (by exact kP Om Om)) ?_))
  refine kB 142 rfl (v':=.int .i64 0) (by rfl) ?_
  refine qK rfl rfl rfl rfl (qX rfl rfl rfl rfl (qG (k:=2) rfl rfl rfl rfl υ'39 rfl ζ'35 rfl ?_))
  refine q_idxA (k:=0) rfl rfl rfl rfl rfl υ'35 ζ'30 (by first | rfl | omega) (by decide) ?_
  refine kH (j:=2) rfl rfl rfl rfl ζ'30 (us:=[_]) rfl rfl rfl Tk Az (by first | decide | (simp;done) | omega) ?_
  simp only [setL,List.set]
  refine qV (qR (qW [] (e':=[]) rfl ?_))
  refine qQ (qL (qC (.q 0 (.done)) Kr ?_))
  refine qS rfl rfl rfl rfl (qR (qQ (qJ (kM (qN (tab_fold (b:=b) (o0:=cq) (o1:=o1) (r0:=dq) (r1:=r1) (C:=B.C) (W:=B.W) (F:=B.F) (G:=B.G) (ca:=ca) (cc:=cc) (wa:=wa) (wc:=wc) (fa:=fa) (fc:=fc) (ga:=ga) (gc:=gc) Ts rfl rfl rfl rfl ?_))))))
  refine kD rfl rfl (⟨cq,o1,dq,r1,m1,m1,B⟩) (by first | rfl | (first | rfl | (congr 1;done) | (congr 1 <;> first | rfl | omega | (simp;done) | (simp;omega)))) (by exact ⟨sok_more hm1 Om,sok_more hm1 Om,bok_more hB Om⟩) ?_
  exact Tf
 refine qF (kX (qQ (qL (qC (.q 0 (.q 1 (.q 2 (.q 3 (.q 4 (.q 5 (.q 6 (.q 7 (.q 8 (.q 9 (.q 10 (.q 11 (.q 12 ((.l 13 [] (.q 14 (.q 15 (.done)))))))))))))))))) Kr ?_))))
 refine qG (k:=0) rfl rfl rfl rfl υ'50 rfl ζ'3 rfl ?_
 refine qP (j:=0) rfl rfl rfl rfl α'3 Tk Az (by rfl) ?_
 refine qB rfl rfl rfl rfl rfl (cB _ _ _ _) ?_
 refine qK rfl rfl rfl rfl ?_
 refine cF 150 rfl (fun hneg=>?_) (fun hneg=>?_)
 ·
  refine qZ rfl rfl rfl rfl (qZ rfl rfl rfl rfl (qZ rfl rfl rfl rfl (kW rfl rfl rfl rfl rfl (qK rfl rfl rfl rfl (qZ rfl rfl rfl rfl (qZ rfl rfl rfl rfl (qZ rfl rfl rfl rfl (qZ rfl rfl rfl rfl ?_))))))))
  refine rS rfl rfl rfl rfl ?_
  refine kW rfl rfl rfl rfl rfl (qS rfl rfl rfl rfl (qR (qW [4] (e':=[(4,_)]) rfl ?_)))
  refine qQ (qJ (kD rfl rfl (⟨o0,o1,r0,r1,m0,m1,B⟩) (by first | rfl | (first | rfl | (congr 1;done) | (congr 1 <;> first | rfl | omega | (simp;done) | (simp;omega)))) (by exact ⟨sok_more hm0 Om,sok_more hm1 Om,bok_more hB Om⟩) ?_))
  exact Tf
 refine qG (k:=0) rfl rfl rfl rfl υ'50 rfl ζ'3 rfl ?_
 refine qP (j:=0) rfl rfl rfl rfl α'3 Tk Az (by rfl) ?_
 refine qB rfl rfl rfl rfl rfl (b_geq _ _ _ _) ?_
 refine kN rfl rfl rfl rfl rfl (qK rfl rfl rfl rfl ?_)
 refine cF 155 rfl (fun hbig=>?_) (fun hbig=>?_)
 ·
  refine qZ rfl rfl rfl rfl (qZ rfl rfl rfl rfl (qZ rfl rfl rfl rfl (qZ rfl rfl rfl rfl (rS rfl rfl rfl rfl ?_))))
  refine kW rfl rfl rfl rfl rfl (qS rfl rfl rfl rfl (qR (qW [4] (e':=[(4,_)]) rfl ?_)))
  refine qQ (qJ (kD rfl rfl (⟨o0,o1,r0,r1,m0,m1,B⟩) (by first | rfl | (first | rfl | (congr 1;done) | (congr 1 <;> first | rfl | omega | (simp;done) | (simp;omega)))) (by exact ⟨sok_more hm0 Om,sok_more hm1 Om,bok_more hB Om⟩) ?_))
  exact Tf
 refine qK rfl rfl rfl rfl (kG rfl rfl rfl rfl α'50 ζ'50 Tk 0 (us:=[_,_,_,_,_,_,_]) Az rfl rfl ?_)
 refine qK rfl rfl rfl rfl (qK rfl rfl rfl rfl ?_)
 have sp_10:=tells_spec b o0 o1 r0 r1 B n_ hB hn_ pa pc po poc ra rc o1 r1 m1 pl N hN hm1 kd on k t u z eo en ec
 refine qM rfl rfl rfl rfl rfl rfl Tryz.call22 (sp_10) Ts ?_
 rintro B2 hB2
 try simp only [Ca,Na]
 refine qV (kN rfl rfl rfl rfl rfl (qS rfl rfl rfl rfl (qR (qW [4] (e':=[(4,_)]) rfl ?_))))
 refine qQ (qJ (kD rfl rfl (⟨o0,o1,r0,r1,m0,m1,B2⟩) (by first | rfl | (first | rfl | (congr 1;done) | (congr 1 <;> first | rfl | omega | (simp;done) | (simp;omega)))) (by exact ⟨sok_more hm0 Om,sok_more hm1 Om,hB2⟩) ?_))
 exact Tf
theorem step_spec (b:Nat) (o0 o1 r0 r1:Option Addr) (B:BK) (n_:Nat) (hB:BOk n_ B) (hn_:n_≤3999990) (pa:Option Addr) (pc:Nat) (po:Option Addr) (poc:Nat) (ra:Option Addr) (rc:Nat) (m0 m1:Option DS) (pl:List Int) (N:Int) (hN:N≤2000000000000) (hm0:SOk pl N m0) (hm1:SOk pl N m1) (kd on k t u z:Int) (es:List T3) (eo:Option Addr) (en ec:Nat) (A:HProp) (he:RdS A eo (es.flatMap enc3)) (hm:es.length=en) (hmb:en≤1500000):Spec Tryz.prog 6 [.pointer (some ⟨b,0,none⟩),.agg #[.int .i64 kd,.int .i64 on,.int .i64 k,.int .i64 t,.int .i64 u,.slice eo en ec,.int .i64 z]] [A,tabR b o0 o1 r0 r1 B,ownP pa pc po poc o0 m0,ownP pa pc po poc o1 m1,refP ra rc r0 m0,refP ra rc r1 m1,own 1 encZ pa pc pl,own 1 encZ po poc pl,own 1 encZ ra rc pl] (fun (T2:TS)=>.bool true) (fun T2=>TOk pl (n_+1) (N+1500000) T2) (fun T2=>[A,tabR b T2.o0 T2.o1 T2.r0 T2.r1 T2.B,ownP pa pc po poc T2.o0 T2.m0,ownP pa pc po poc T2.o1 T2.m1,refP ra rc T2.r0 T2.m0,refP ra rc T2.r1 T2.m1,own 1 encZ pa pc pl,own 1 encZ po poc pl,own 1 encZ ra rc pl]):=by
  rcases tmod_two on with h | h
  · exact step0 b o0 o1 r0 r1 B n_ hB hn_ pa pc po poc ra rc m0 m1 pl N hN hm0 hm1 kd on k t u z es eo en ec A he hm hmb h
  · exact step1 b o0 o1 r0 r1 B n_ hB hn_ pa pc po poc ra rc m0 m1 pl N hN hm0 hm1 kd on k t u z es eo en ec A he hm hmb h
end Go.Ab.Rv
