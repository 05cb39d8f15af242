/- What the law Plays rests on, part 8 of 8. -/
import Derived.Test.YtjibehgfiljbgaaPlaysG
import Derived.Test.YtjibehgfiljbgaaRows
import Derived.WalkKit
import Derived.ProofKit
import Derived.OpenShut
import Derived.JoinedCond
import Derived.Carry
set_option linter.unusedVariables false
set_option linter.unusedSimpArgs false
set_option maxRecDepth 100000
namespace Go.Ab.Fr
open Go Go.Proofs Go.Ab Go.Ab.Fe Go.Ab.Vc Go.Ab.Dj Go.Ab.Fa
abbrev T5:=Int × Int × T3
def enc5 (x:T5):List Value:=[.int .i64 x.1,.int .i64 x.2.1,.int .i64 x.2.2.1,.int .i64 x.2.2.2.1,.int .i64 x.2.2.2.2]
theorem enc5_len:∀ x,(enc5 x).length=5:=fun _=>rfl
/-- Behind an ask. -/
def askF (x:FS) (a k t o:Int):FS:=if a=1 then feF x k t o else if a=2 then feF (feF x k t o) k t o else x
theorem ask1 {x:FS} {a k t o:Int} (h:a=1):askF x a k t o=feF x k t o:=if_pos h
theorem ask2 {x:FS} {a k t o:Int} (h:a=2):askF x a k t o=feF (feF x k t o) k t o:=by rw [askF,if_neg Om,if_pos h]
theorem ask0 {x:FS} {a k t o:Int} (h1:a≠1) (h2:a≠2):askF x a k t o=x:=by rw [askF,if_neg h1,if_neg h2]
theorem ask_inv {x:FS} (hx:FInv x) (a k t o:Int):FInv (askF x a k t o):=by
  unfold askF
  split
  · exact fe_inv hx _ _ _
  split
  · exact fe_inv (fe_inv hx _ _ _) _ _ _
  · exact hx
theorem ask_n (x:FS) (a k t o:Int):(askF x a k t o).v.ck.n≤x.v.ck.n+2∧(askF x a k t o).v.ck.pa=x.v.ck.pa:=by
  have h1:=fe_n (x:=x) k t o
  have h2:=fe_n (x:=feF x k t o) k t o
  unfold askF
  split
  · exact ⟨by omega,h1.2.1⟩
  split
  · exact ⟨by omega,h2.2.1.trans h1.2.1⟩
  · exact ⟨by omega,rfl⟩
/-- Two of the same at once. -/
theorem two_at {x:FS} {k t o:Int} {i:Nat} (h1:i≤2) (h2:okFAll x ([(k,t,o),(k,t,o)].take i)) (h3:i < 2→∀ e,[(k,t,o),(k,t,o)][i]?=some e→¬ canFE (fAll x ([(k,t,o),(k,t,o)].take i)) e) :
    fAll x ([(k,t,o),(k,t,o)].take i)=feF (feF x k t o) k t o∧((i=0∧feE x k t o≠0)∨(i=1∧feE x k t o=0∧feE (feF x k t o) k t o≠0)∨(i=2∧feE x k t o=0∧feE (feF x k t o) k t o=0)):=by
  have no:∀ y:FS,¬ canFE y (k,t,o)→feF y k t o=y∧feE y k t o=6:=fun y h=>⟨if_neg h,if_neg h⟩
  have ys:∀ y:FS,canFE y (k,t,o)→feE y k t o=0:=fun y h=>if_pos h
  rcases (show i=0∨i=1∨i=2 by omega) with rfl | rfl | rfl
  · obtain ⟨a,b⟩:=no x (h3 (by decide) (k,t,o) rfl)
    exact ⟨by rw [a,a];rfl,.inl ⟨rfl,by rw [b];decide⟩⟩
  · obtain ⟨a,b⟩:=no (feF x k t o) (h3 (by decide) (k,t,o) rfl)
    exact ⟨by rw [a];rfl,.inr (.inl ⟨rfl,ys x (h2 0 (k,t,o) rfl),by rw [b];decide⟩)⟩
  · exact ⟨rfl,.inr (.inr ⟨rfl,ys x (h2 0 (k,t,o) rfl),ys _ (h2 1 (k,t,o) rfl)⟩)⟩
theorem fee6 {x:FS} {k t o:Int} (h:feE x k t o≠0):feE x k t o=6:=by
  unfold feE at h ⊢
  split
  · rename_i q;rw [if_pos q] at h;exact absurd rfl h
  · rfl
/-- The other detector, and its twin. -/
def oth (pa:Option Addr) (pc:Nat) (po:Option Addr) (poc:Nat) (qa:Option Addr) (qc:Nat) (M:List H):Option (Nat × Nat × FS)→HProp
  | none=>Bun []
  | some z=>Bun [dfR pa pc po poc z.1 z.2.2,rfR qa qc z.2.1 M z.2.2]
section
variable {w0:World} {ds:List Deferred} {n:Nat} {e:Env} {Γ Γ':List HProp} {X:Act→World→Prop} {pa po qa:Option Addr} {pc poc qc:Nat} {M M':List H}
theorem oth_nil (k:Le (St w0 ds n e (oth pa pc po poc qa qc M none::Γ)) X):Le (St w0 ds n e Γ) X:=kF (fun _ h=>Bun.fold (Γ:=[]) h) k
theorem oth_open {b q:Nat} {y:FS} (k:Le (St w0 ds n e (dfR pa pc po poc b y::rfR qa qc q M y::Γ)) X):Le (St w0 ds n e (oth pa pc po poc qa qc M (some (b,q,y))::Γ)) X:=kF (fun _ h=>Bun.unfold (Γ:=[dfR pa pc po poc b y,rfR qa qc q M y]) h) k
theorem oth_fold {b q:Nat} {y:FS} (tk:Takes Γ [dfR pa pc po poc b y,rfR qa qc q M y] Γ') (k:Le (St w0 ds n e (oth pa pc po poc qa qc M (some (b,q,y))::Γ')) X):Le (St w0 ds n e Γ) X:=kF (fun hp h=>Bun.fold (Γ:=[dfR pa pc po poc b y,rfR qa qc q M y]) (tk _ h)) k
theorem oth_more {o:Option (Nat × Nat × FS)} (hs:∀ h∈M,h∈M') (tk:Take Γ (oth pa pc po poc qa qc M o) Γ') (k:Le (St w0 ds n e (oth pa pc po poc qa qc M' o::Γ')) X):Le (St w0 ds n e Γ) X:=by
  cases o with
  | none=>exact kF (fun h s=>tk h s) k
  | some z =>
    refine kF (fun h s=>?_) k
    have s1:=Bun.unfold (Γ:=[dfR pa pc po poc z.1 z.2.2,rfR qa qc z.2.1 M z.2.2]) (tk h s)
    refine Bun.fold (Γ:=[dfR pa pc po poc z.1 z.2.2,rfR qa qc z.2.1 M' z.2.2]) (Sat.cons_mono (fun h s=>?_) s1)
    obtain ⟨h1,l1,⟨cb,Va,Vc,La,Lc,Oa,Oc,Ra,Rc,Xa,Xc,r,hR,hP,a1⟩,s2⟩:=s
    exact ⟨h1,l1,⟨cb,Va,Vc,La,Lc,Oa,Oc,Ra,Rc,Xa,Xc,r,hR,poolA_more hs hP,a1⟩,s2⟩
end
theorem own_front {α:Type} {sz:Nat} {enc:α→List Value} (hsz:∀ x,(enc x).length=sz) {ao:Option Addr} {cap:Nat} {l:List α} {z:α} (h2:ao=none→l++[z]=[]∧cap=0) (h3:ao≠none→∃ b off,ao=some ⟨b,off,none⟩):RdS (own sz enc ao cap (l++[z])) ao (l.flatMap enc):=by
  have:=rds_take (sD (cap:=cap) hsz (fun e=>(h2 e).1) h3) hsz l.length
  rwa [List.take_left] at this
theorem app_at {α:Type} (l:List α) (z:α):(l++[z])[l.length]?=some z:=by simp
theorem alikeo_spec (pa:Option Addr) (pc:Nat) (po:Option Addr) (poc:Nat) (qa:Option Addr) (qc:Nat) (M:List H) (o:Option (Nat × Nat × FS)) (ho:∀ z,o=some z→FInv z.2.2) :
    Spec Try.prog 15 [.pointer (o.map fun z=>(⟨z.1,0,none⟩:Addr)),.pointer (o.map fun z=>(⟨z.2.1,0,none⟩:Addr))] [oth pa pc po poc qa qc M o,bigS (owA 1 encU) M] (fun (_:Unit)=>.bool true) (fun _=>True) (fun _=>[]):=by
  cases o with
  | none=>exact alike_nil.conseq (fun Γ hp s=>s.tail.tail) (fun y hy=>⟨y,rfl,hy,fun Γ hp s=>s⟩)
  | some z =>
    refine (alike_spec pa pc po poc z.1 qa qc z.2.1 M z.2.2 (ho z rfl)).conseq (fun Γ hp s=>?_) (fun y hy=>⟨y,rfl,hy,fun Γ hp s=>s.tail.tail.tail⟩)
    obtain ⟨h1,l1,a1,s1⟩:=s
    have s2:=Bun.unfold (Γ:=[dfR pa pc po poc z.1 z.2.2,rfR qa qc z.2.1 M z.2.2]) ⟨h1,l1,a1,s1⟩
    exact (by (repeat ((with_reducible apply Z2);focus (first | (with_reducible (repeat (first | exact Z0 | apply Z1));done) | (repeat (first | exact Z0 | apply Z1)))));exact Z3:Takes _ [dfR pa pc po poc z.1 z.2.2,rfR qa qc z.2.1 M z.2.2,bigS (owA 1 encU) M] _) _ s2
theorem asks_spec (pa:Option Addr) (pc:Nat) (po:Option Addr) (poc d:Nat) (qa:Option Addr) (qc r:Nat) (b:Nat) (M:List H) (B:BK) (N_:Nat) (x:FS) (hx:FInv x) (hn:x.v.ck.n≤3999990) (hB:BOk N_ B) (hN:N_≤3999990) (pl:List Int) (hpl:x.v.ck.pa=pl) (a u k t o:Int):Spec Try.prog 24 [.pointer (some ⟨d,0,none⟩),.pointer (some ⟨r,0,none⟩),.agg #[.int .i64 a,.int .i64 u,.int .i64 k,.int .i64 t,.int .i64 o],.pointer (some ⟨b,0,none⟩)] [dfR pa pc po poc d x,rfR qa qc r M x,bigS (owA 1 encU) M,bookR b B,own 1 encZ pa pc pl,own 1 encZ po poc pl,own 1 encZ qa qc pl] (fun (r2:List H × BK)=>.bool true) (fun r2=>(∀ q_∈M,q_∈r2.1)∧BOk (N_+2) r2.2) (fun r2=>[dfR pa pc po poc d (askF x a k t o),rfR qa qc r r2.1 (askF x a k t o),bigS (owA 1 encU) r2.1,bookR b r2.2,own 1 encZ pa pc pl,own 1 encZ po poc pl,own 1 encZ qa qc pl]):=by
 refine kP (n:=141) Try.func24 rfl rfl rfl ?_
 intro Γ w0
 simp only [argE,List.cons_append,List.nil_append,Nat.zero_add,Nat.reduceAdd]
 have hfl:=flFF_len x.vs
 have hvb:=hx.v.ck.sh.va
 have hvl:=hx.len
 have hwl:((shE (wFF x u)).getD []).length≤65535:=sh_len hx u
 have hwl2:(thF x.v u).length≤65535:=th_len hx u
 refine qG (qC ((.l 0 [] (.q 1 (.done)))) Kr ?_)
 refine sX rfl rfl rfl rfl (us:=[_,_,_,_,_]) rfl ?_
 intro b6
 refine qV (qR rfl rfl rfl rfl (qS (qQ (qG (qG (qC (.q 0 (.q 1 (.done))) Kr ?_))))))
 refine qL (k:=0) rfl rfl rfl rfl υ'71 rfl ζ'3 rfl ?_
 refine qP (j:=0) rfl rfl rfl rfl α'3 Tk Az (by rfl) ?_
 refine qS (qQ (kS (qG (qC (.q 0 (.q 1 (.done))) Kr ?_))))
 refine qN rfl rfl rfl rfl rfl (cS _ _ _ _) ?_
 refine qR rfl rfl rfl rfl (qS (qW [0,1,3,6,19,20] (e':=[(0,_),(1,_),(3,_),(6,_),(19,_),(20,_)]) rfl ?_))
 refine qQ ?_
 refine qB rfl (fun ha1=>?_) (fun ha1=>?_)
 ·
  refine qG ?_
  have hfn:=(fe_n (x:=x) k t o)
  refine kX rfl (.q 0 (.q 1 (.q 2 (.q 4 (.q 5 (.q 6 ((.l 3 [6] ((.l 7 [] (.q 8 (.q 9 (.done))))))))))))) Kr ?_
  refine qK rfl rfl rfl rfl (qL (k:=2) rfl rfl rfl rfl υ'71 rfl ζ'36 rfl ?_)
  refine kN rfl rfl rfl rfl α'36 ζ'36 Tk 2 (us:=[_,_,_]) Az rfl rfl ?_
  refine qK rfl rfl rfl rfl (qL (k:=2) rfl rfl rfl rfl υ'71 rfl ζ'36 rfl ?_)
  refine kN rfl rfl rfl rfl α'36 ζ'36 Tk 2 (us:=[_,_,_]) Az rfl rfl ?_
  have sp_1:=Fa.event_spec pa pc po poc d x hx Om pl hpl k t o
  refine qM rfl rfl rfl rfl rfl rfl Try.call14 (sp_1) Ts ?_
  rintro ⟨⟩ -
  try simp only [List.cons_append,List.nil_append]
  refine cZ rfl rfl (us:=[_,_,_]) rfl α'36 ζ'36 Tk 2 Az rfl rfl ?_
  refine qV ?_
  have sp_2:=Fr.revent_spec qa qc r M x hx Om pl hpl k t o
  refine qM rfl rfl rfl rfl rfl rfl Try.call13 (sp_2) Ts ?_
  rintro M2 hM2
  try simp only [List.cons_append,List.nil_append]
  refine qV (qN rfl rfl rfl rfl rfl (cS _ _ _ _) ?_)
  refine kH 30 rfl (v':=.bool true) (by first | rfl | simp) ?_
  refine qR rfl rfl rfl rfl (qS (qW [8] (e':=[(8,_)]) rfl ?_))
  refine qQ (qJ (cC (qD ?_)))
  rw [ask1 ha1]
  refine cR rfl rfl ((M2,B)) (by first | rfl | (first | rfl | (congr 1;done) | (congr 1 <;> first | rfl | omega | (simp;done) | (simp;omega)))) (by exact ⟨hM2,bok_more hB Om⟩) ?_
  exact Tf
 refine qG (qC (.q 0 (.q 1 (.done))) Kr ?_)
 refine qN rfl rfl rfl rfl rfl (cS _ _ _ _) ?_
 refine qR rfl rfl rfl rfl (qS (qQ ?_))
 refine qB rfl (fun ha2=>?_) (fun ha2=>?_)
 ·
  refine qG (qC (.q 0 (.q 1 (.q 2 (.q 3 (.q 4 ((.l 5 [] ((.l 6 [] (.q 7 (.q 8 (.q 9 (.q 10 (.q 11 (.done))))))))))))))) Kr ?_)
  refine qK rfl rfl rfl rfl (qL (k:=2) rfl rfl rfl rfl υ'71 rfl ζ'36 rfl ?_)
  refine kN rfl rfl rfl rfl α'36 ζ'36 Tk 2 (us:=[_,_,_]) Az rfl rfl ?_
  refine qL (k:=2) rfl rfl rfl rfl υ'71 rfl ζ'36 rfl ?_
  refine kN rfl rfl rfl rfl α'36 ζ'36 Tk 2 (us:=[_,_,_]) Az rfl rfl ?_
  refine cG rfl rfl rfl rfl (vs:=[_,_,_,_,_,_]) (run_buildSl υ'26 ζ'36 ω'36 rfl rfl rfl rfl) ?_
  intro b39
  refine qV ?_
  have sp_3:=Fa.events_spec pa pc po poc d x hx Om pl hpl ([(k,t,o),(k,t,o)]) (some ⟨b39,0,none⟩) 2 2 (cells b39 0 [.int .i64 k,.int .i64 t,.int .i64 o,.int .i64 k,.int .i64 t,.int .i64 o]) (sW sC) Ln Om
  refine qM rfl rfl rfl rfl rfl rfl Try.call12 (sp_3) Ts ?_
  rintro ii ⟨hii1,hii2,hii3⟩
  try simp only [List.cons_append,List.nil_append]
  refine qV ?_
  obtain ⟨htw,htc⟩:=two_at hii1 hii2 hii3
  rw [htw]
  refine qK rfl rfl rfl rfl (kW rfl rfl rfl rfl rfl (kW rfl rfl rfl rfl rfl (qR rfl rfl rfl rfl (qR rfl rfl rfl rfl (qS (qW [1,6,9,10] (e':=[(1,_),(6,_),(9,_),(10,_)]) rfl ?_))))))
  refine qQ (qG (qC (.q 0 (.done)) Kr ?_))
  refine qR rfl rfl rfl rfl (qS (qQ (qG ?_)))
  have hfn:=(fe_n (x:=x) k t o)
  refine qC (.q 0 (.q 1 (.q 2 ((.l 3 [] (.q 4 (.done))))))) Kr ?_
  refine qK rfl rfl rfl rfl (qL (k:=2) rfl rfl rfl rfl υ'71 rfl ζ'36 rfl ?_)
  refine kN rfl rfl rfl rfl α'36 ζ'36 Tk 2 (us:=[_,_,_]) Az rfl rfl ?_
  have sp_4:=Fr.revent_spec qa qc r M x hx Om pl hpl k t o
  refine qM rfl rfl rfl rfl rfl rfl Try.call13 (sp_4) Ts ?_
  rintro M2 hM2
  try simp only [List.cons_append,List.nil_append]
  refine qV (qR rfl rfl rfl rfl (qS (qW [1,6,9,10,11,12] (e':=[(1,_),(6,_),(9,_),(10,_),(11,_),(12,_)]) rfl ?_)))
  refine qQ (qG (qG (qC (.q 0 (.q 1 (.done))) Kr ?_)))
  refine qK rfl rfl rfl rfl (qN rfl rfl rfl rfl rfl (cS _ _ _ _) ?_)
  refine qS (qQ ?_)
  refine qB rfl (fun he1=>?_) (fun he1=>?_)
  ·
   refine qG (qC (.q 0 (.done)) Kr ?_)
   refine qR rfl rfl rfl rfl (qS (qQ (qG (qC (.q 0 (.q 1 (.q 2 ((.l 3 [] (.q 4 (.done))))))) Kr ?_))))
   refine qK rfl rfl rfl rfl (qL (k:=2) rfl rfl rfl rfl υ'71 rfl ζ'36 rfl ?_)
   refine kN rfl rfl rfl rfl α'36 ζ'36 Tk 2 (us:=[_,_,_]) Az rfl rfl ?_
   have sp_5:=Fr.revent_spec qa qc r M2 (feF x k t o) (fe_inv hx k t o) Om pl ((fe_n (x:=x) k t o).2.1.trans hpl) k t o
   refine qM rfl rfl rfl rfl rfl rfl Try.call13 (sp_5) Ts ?_
   rintro M3 hM3
   try simp only [List.cons_append,List.nil_append]
   refine qV (qR rfl rfl rfl rfl (qS (qW [9,10,11,12] (e':=[(9,_),(10,_),(11,_),(12,_)]) rfl ?_)))
   refine qQ (qG (qC (.q 0 (.q 1 (.done))) Kr ?_))
   refine qK rfl rfl rfl rfl (qN rfl rfl rfl rfl rfl (cS _ _ _ _) ?_)
   refine qS (qQ ?_)
   refine qB rfl (fun he2=>?_) (fun he2=>?_)
   ·
    refine qC (.q 0 (.done)) Kr ?_
    refine qR rfl rfl rfl rfl (qS (qQ (qG (qC (.q 0 (.q 1 (.q 2 (.q 3 (.q 4 (.q 5 (.q 6 (.q 7 (.q 8 (.done)))))))))) Kr ?_))))
    refine qK rfl rfl rfl rfl (qK rfl rfl rfl rfl (qN rfl rfl rfl rfl rfl (cS _ _ _ _) ?_))
    refine kH 57 rfl (v':=.bool true) (by congr 1;rw [decide_eq_true_eq];rcases htc with ⟨rfl,q1⟩ | ⟨rfl,q1,q2⟩ | ⟨rfl,q1,q2⟩ <;> first | rfl | omega) ?_
    refine qK rfl rfl rfl rfl (qK rfl rfl rfl rfl (qK rfl rfl rfl rfl (qN rfl rfl rfl rfl rfl (cS _ _ _ _) ?_)))
    refine kH 61 rfl (v':=.bool true) (by congr 1;rw [decide_eq_true_eq];rcases htc with ⟨rfl,q1⟩ | ⟨rfl,q1,q2⟩ | ⟨rfl,q1,q2⟩ <;> first | (rw [if_pos rfl];omega) | (rw [if_neg (by decide),fee6 Om]) | omega) ?_
    refine kZ rfl rfl rfl rfl rfl (qR rfl rfl rfl rfl (qS (qW [8] (e':=[(8,_)]) rfl ?_)))
    refine qQ (qJ (cC (qD ?_)))
    rw [ask2 ha2]
    refine cR rfl rfl ((M3,B)) (by first | rfl | (first | rfl | (congr 1;done) | (congr 1 <;> first | rfl | omega | (simp;done) | (simp;omega)))) (by exact ⟨fun q_ h_=>hM3 q_ (hM2 q_ h_),bok_more hB Om⟩) ?_
    exact Tf
   refine qF (qQ (qG (qC (.q 0 (.q 1 (.q 2 (.q 3 (.q 4 (.q 5 (.q 6 (.q 7 (.q 8 (.done)))))))))) Kr ?_)))
   refine qK rfl rfl rfl rfl (qK rfl rfl rfl rfl (qN rfl rfl rfl rfl rfl (cS _ _ _ _) ?_))
   refine kH 57 rfl (v':=.bool true) (by congr 1;rw [decide_eq_true_eq];rcases htc with ⟨rfl,q1⟩ | ⟨rfl,q1,q2⟩ | ⟨rfl,q1,q2⟩ <;> first | rfl | omega) ?_
   refine qK rfl rfl rfl rfl (qK rfl rfl rfl rfl (qK rfl rfl rfl rfl (qN rfl rfl rfl rfl rfl (cS _ _ _ _) ?_)))
   refine kH 61 rfl (v':=.bool true) (by congr 1;rw [decide_eq_true_eq];rcases htc with ⟨rfl,q1⟩ | ⟨rfl,q1,q2⟩ | ⟨rfl,q1,q2⟩ <;> first | (rw [if_pos rfl];omega) | (rw [if_neg (by decide),fee6 Om]) | omega) ?_
   refine kZ rfl rfl rfl rfl rfl (qR rfl rfl rfl rfl (qS (qW [8] (e':=[(8,_)]) rfl ?_)))
   refine qQ (qJ (cC (qD ?_)))
   rw [ask2 ha2]
   refine cR rfl rfl ((M3,B)) (by first | rfl | (first | rfl | (congr 1;done) | (congr 1 <;> first | rfl | omega | (simp;done) | (simp;omega)))) (by exact ⟨fun q_ h_=>hM3 q_ (hM2 q_ h_),bok_more hB Om⟩) ?_
   exact Tf
  refine qF (qQ (qG (qC (.q 0 (.q 1 (.q 2 (.q 3 (.q 4 (.q 5 (.q 6 (.q 7 (.q 8 (.done)))))))))) Kr ?_)))
  refine qK rfl rfl rfl rfl (qK rfl rfl rfl rfl (qN rfl rfl rfl rfl rfl (cS _ _ _ _) ?_))
  refine kH 57 rfl (v':=.bool true) (by congr 1;rw [decide_eq_true_eq];rcases htc with ⟨rfl,q1⟩ | ⟨rfl,q1,q2⟩ | ⟨rfl,q1,q2⟩ <;> first | rfl | omega) ?_
  refine qK rfl rfl rfl rfl (qK rfl rfl rfl rfl (qK rfl rfl rfl rfl (qN rfl rfl rfl rfl rfl (cS _ _ _ _) ?_)))
  refine kH 61 rfl (v':=.bool true) (by congr 1;rw [decide_eq_true_eq];rcases htc with ⟨rfl,q1⟩ | ⟨rfl,q1,q2⟩ | ⟨rfl,q1,q2⟩ <;> first | (rw [if_pos rfl];omega) | (rw [if_neg (by decide),fee6 Om]) | omega) ?_
  refine kZ rfl rfl rfl rfl rfl (qR rfl rfl rfl rfl (qS (qW [8] (e':=[(8,_)]) rfl ?_)))
  refine qQ (qJ (cC (qD ?_)))
  have h9:feF x k t o=x:=if_neg (fun h=>he1 (if_pos h))
  rw [ask2 ha2]
  refine rf_more (M':=M2) (fun _ h_=>h_) Tk ?_
  rw [h9,h9]
  refine cR rfl rfl ((M2,B)) (by first | rfl | (first | rfl | (congr 1;done) | (congr 1 <;> first | rfl | omega | (simp;done) | (simp;omega)))) (by exact ⟨hM2,bok_more hB Om⟩) ?_
  exact Tf
 refine qG (qC (.q 0 (.q 1 (.done))) Kr ?_)
 refine qN rfl rfl rfl rfl rfl (cS _ _ _ _) ?_
 refine qR rfl rfl rfl rfl (qS (qW [0,1,3,6,19,63] (e':=[(0,_),(1,_),(3,_),(6,_),(19,_),(63,_)]) rfl ?_))
 refine qQ ?_
 refine qB rfl (fun ha3=>?_) (fun ha3=>?_)
 ·
  refine qG (qC (.q 0 (.done)) Kr ?_)
  refine qR rfl rfl rfl rfl (qS (qQ (kS ?_)))
  refine cD (α:=Nat × BK) (fun (x_:Nat × BK)=>match x_ with | (j,Bj)=>j≤2∧(BOk (N_+j) Bj)) (fun (x_:Nat × BK)=>match x_ with | (j,Bj)=>[(13,.int .i64 ((j:Nat):Int))]) (fun (x_:Nat × BK)=>match x_ with | (j,Bj)=>[bookR b Bj]) (fun (x_:Nat × BK)=>match x_ with | (j,Bj)=>2 - j) [0,1,3,6] (er:=[(0,_),(1,_),(3,_),(6,_)]) rfl (0,B) ?_ (by exact ⟨rfl,trivial⟩) (by (try dsimp only);(try simp only [Nat.add_zero,Nat.zero_add]);(repeat ((with_reducible apply Z2);focus (first | (with_reducible (repeat (first | exact Z0 | apply Z1));done) | (repeat (first | exact Z0 | apply Z1)))));exact Z3) ?_
  · exact ⟨Nat.zero_le _,hB⟩
  rintro ⟨j,Bj⟩ ⟨hle_j,hBj⟩
  try simp only [List.cons_append,List.nil_append]
  refine qG (qG (qC (.q 0 (.q 1 (.done))) Kr ?_))
  refine qK rfl rfl rfl rfl (qN rfl rfl rfl rfl rfl (sK _ _ _ _) ?_)
  refine qS (qQ ?_)
  refine qB rfl (fun hlt=>?_) (fun hlt=>?_)
  ·
   refine qF (qQ (qG (kS (qG (qC (.q 0 (.q 1 (.q 2 ((.l 3 [] (.q 4 (.q 5 (.q 6 ((.l 7 [] ((.l 8 [] (.q 9 (.done)))))))))))))) Kr ?_)))))
   refine qK rfl rfl rfl rfl (qL (k:=1) rfl rfl rfl rfl υ'71 rfl ζ'3 rfl ?_)
   refine qP (j:=1) rfl rfl rfl rfl α'3 Tk Az (by rfl) ?_
   have sp_6:=Fa.state_spec pa pc po poc d x hx u
   refine qM rfl rfl rfl rfl rfl rfl Try.call18 (sp_6) Ts ?_
   rintro ⟨saa,sac⟩ -
   try simp only [List.cons_append,List.nil_append]
   refine qV (qK rfl rfl rfl rfl (kW rfl rfl rfl rfl rfl (kW rfl rfl rfl rfl rfl (cF rfl rfl rfl ω'52 (zs:=[.int .u64 0,.int .u64 0,.bool false,.slice none 0 0]) rfl ?_))))
   intro b14
   refine qV (kR (j:=0) rfl rfl rfl rfl ζ'52 (us:=[_,_,_,_]) rfl rfl rfl Tk Az (by first | decide | (simp;done) | omega) ?_)
   simp only [setL,List.set]
   refine qV (qR rfl rfl rfl rfl (qS (qW [0,1,3,6,13,14,15] (e':=[(0,_),(1,_),(3,_),(6,_),(13,_),(14,_),(15,_)]) rfl ?_)))
   refine qQ (qG (qC (.q 0 (.q 1 (.q 2 ((.l 3 [] (.q 4 (.q 5 (.q 6 ((.l 7 [] ((.l 8 [] (.q 9 (.done)))))))))))))) Kr ?_))
   refine qK rfl rfl rfl rfl (qL (k:=1) rfl rfl rfl rfl υ'71 rfl ζ'3 rfl ?_)
   refine qP (j:=1) rfl rfl rfl rfl α'3 Tk Az (by rfl) ?_
   have sp_7:=Fr.rstate_spec qa qc r M x  u
   refine qM rfl rfl rfl rfl rfl rfl Try.call58 (sp_7) Ts ?_
   rintro ⟨sba,sbc⟩ -
   try simp only [List.cons_append,List.nil_append]
   refine qV (qK rfl rfl rfl rfl (kW rfl rfl rfl rfl rfl (kW rfl rfl rfl rfl rfl (cF rfl rfl rfl ω'52 (zs:=[.int .u64 0,.int .u64 0,.bool false,.slice none 0 0]) rfl ?_))))
   intro b16
   refine qV (kR (j:=0) rfl rfl rfl rfl ζ'52 (us:=[_,_,_,_]) rfl rfl rfl Tk Az (by first | decide | (simp;done) | omega) ?_)
   simp only [setL,List.set]
   refine qV (qR rfl rfl rfl rfl (qS (qW [0,1,3,6,13,14,15,16,17] (e':=[(0,_),(1,_),(3,_),(6,_),(13,_),(14,_),(15,_),(16,_),(17,_)]) rfl ?_)))
   refine qQ (qG (qG (qC (.q 0 (.q 1 (.q 2 (.q 3 (.q 4 (.q 5 ((.l 6 [] (.q 7 (.q 8 (.done))))))))))) Kr ?_)))
   refine qK rfl rfl rfl rfl (qK rfl rfl rfl rfl (q_neb rfl rfl rfl rfl rfl υ'4 ?_))
   refine kH 85 rfl (v':=.bool false) (by first | rfl | simp) ?_
   refine qK rfl rfl rfl rfl (kN rfl rfl rfl rfl α'52 ζ'52 Tk 0 (us:=[_,_,_,_]) Az rfl rfl ?_)
   refine kN rfl rfl rfl rfl α'52 ζ'52 Tk 0 (us:=[_,_,_,_]) Az rfl rfl ?_
   refine cK (A:=own 1 encU saa sac ((shE (wFF x u)).getD [])) Tk ?_
   refine rQ fun f_8a f_8b f_8c=>?_
   refine cK (A:=own 1 encU sba sbc ((shE (wFF x u)).getD [])) Tk ?_
   refine rQ fun f_9a f_9b f_9c=>?_
   refine kF (fun _ h=>Bun.fold ((by (repeat ((with_reducible apply Z2);focus (first | (with_reducible (repeat (first | exact Z0 | apply Z1));done) | (repeat (first | exact Z0 | apply Z1)))));exact Z3:Takes _ [own 1 encU saa sac ((shE (wFF x u)).getD []),own 1 encU sba sbc ((shE (wFF x u)).getD [])] _) _ h)) ?_
   have sp_10:=state_same (wrE (wFF x u)) (rdE (wFF x u)) (wrE (wFF x u)) (rdE (wFF x u)) (((shE (wFF x u)).getD []).length) (((shE (wFF x u)).getD []).length) sac sbc ((shE (wFF x u)).isSome) ((shE (wFF x u)).isSome) saa sba ((shE (wFF x u)).getD []) ((shE (wFF x u)).getD []) (Bun [own 1 encU saa sac ((shE (wFF x u)).getD []),own 1 encU sba sbc ((shE (wFF x u)).getD [])]) Ln (rds_bun (List.mem_cons_self) (sD encU_len (fun h=>(f_8b h).1) f_8c)) Ln (rds_bun (List.mem_cons_of_mem _ (List.mem_cons_self)) (sD encU_len (fun h=>(f_9b h).1) f_9c)) Om
   refine qM rfl rfl rfl rfl rfl rfl Try.call59 (sp_10) Ts ?_
   rintro ⟨⟩ -
   try simp only [List.cons_append,List.nil_append]
   refine cK (A:=Bun [own 1 encU saa sac ((shE (wFF x u)).getD []),own 1 encU sba sbc ((shE (wFF x u)).getD [])]) Tk ?_
   refine s_bun ?_
   try simp only [List.cons_append,List.nil_append]
   try simp only [List.cons_append,List.nil_append]
   refine qV (kH 89 rfl (v':=.bool true) (by first | rfl | simp) ?_)
   refine rL rfl rfl rfl rfl ?_
   refine kH 90 rfl (v':=.bool false) rfl ?_
   refine kC rfl rfl rfl rfl rfl (qS (qW [0,1,3,6,13,14,16,87,88,89,90,91] (e':=[(0,_),(1,_),(3,_),(6,_),(13,_),(14,_),(16,_),(87,_),(88,_),(89,_),(90,_),(91,_)]) rfl ?_))
   refine qQ (kB rfl ?_)
   refine qF (qQ (qC (.q 0 (.q 1 (.q 2 (.q 3 (.q 4 ((.l 5 [] (.done)))))))) Kr ?_))
   refine qK rfl rfl rfl rfl (qL (k:=3) rfl rfl rfl rfl υ'52 rfl ζ'50 rfl ?_)
   refine qP (j:=3) rfl rfl rfl rfl α'50 Tk Az (by rfl) ?_
   refine qL (k:=3) rfl rfl rfl rfl υ'52 rfl ζ'50 rfl ?_
   refine qP (j:=3) rfl rfl rfl rfl α'50 Tk Az (by rfl) ?_
   have hbn_1:=(hBj).cn
   have hbn_2:=(hBj).fn
   have hbn_3:Bj.C.length=Bj.W.length:=by simpa using congrArg List.length (hBj).c
   have hbn_4:Bj.F.length=Bj.G.length:=by simpa using congrArg List.length (hBj).f
   have sp_12:=bclocks_spec b Bj ((shE (wFF x u)).getD []) ((shE (wFF x u)).getD []) saa sba (((shE (wFF x u)).getD []).length) sac (((shE (wFF x u)).getD []).length) sbc rfl rfl Om Om Om Om
   refine qM rfl rfl rfl rfl rfl rfl Try.call68 (sp_12) Ts ?_
   rintro ⟨⟩ -
   obtain ⟨B_11,hB_11d⟩:∃ B_:BK,B_=(⟨Bj.C++[(saa,sac,((shE (wFF x u)).getD []))],Bj.W++[(sba,sbc,((shE (wFF x u)).getD []))],Bj.F,Bj.G⟩:BK):=⟨_,rfl⟩
   rw [← hB_11d]
   have hB_11:=bok_c (x:=((saa,sac,((shE (wFF x u)).getD [])):LstA _)) (y:=((sba,sbc,((shE (wFF x u)).getD [])):LstA _)) (hBj) rfl (by exact hwl)
   rw [← hB_11d] at hB_11
   try simp only [List.cons_append,List.nil_append]
   refine qV (qS (qW [0,1,3,6,13,87,88,89,90] (e':=[(0,_),(1,_),(3,_),(6,_),(13,_),(87,_),(88,_),(89,_),(90,_)]) rfl ?_))
   refine kK (qQ (qC (.q 0 (.q 1 (.q 2 (.done)))) Kr ?_))
   refine qK rfl rfl rfl rfl (qN rfl rfl rfl rfl rfl (cV _ (by exact kG Om Om)) ?_)
   refine qR rfl rfl rfl rfl (qS (qQ ?_))
   refine cQ (x:=(j,Bj)) ((j+1,B_11)) ?_ ?_ ?_ ?_
   · try dsimp only
     exact ⟨by omega,hB_11⟩
   · show 2 - (j+1) < 2 - j;omega
   · exact ⟨rfl,rfl,rfl,rfl,rfl,trivial⟩
   · (try simp only [List.cons_append,List.nil_append]);exact Tf
  refine cM (qZ (qZ (kV (kK (qQ (qG (qC (.q 0 (.done)) Kr ?_)))))))
  refine qR rfl rfl rfl rfl (qS (qW [8] (e':=[(8,_)]) rfl ?_))
  refine qQ (qJ ?_)
  rw [ask0 Om Om]
  refine cR rfl rfl ((M,Bj)) (by first | rfl | (first | rfl | (congr 1;done) | (congr 1 <;> first | rfl | omega | (simp;done) | (simp;omega)))) (by exact ⟨fun q_ h_=>h_,bok_more hBj Om⟩) ?_
  exact Tf
 refine qG (qC (.q 0 (.q 1 (.done))) Kr ?_)
 refine qN rfl rfl rfl rfl rfl (cS _ _ _ _) ?_
 refine qR rfl rfl rfl rfl (qS (qQ ?_))
 refine qB rfl (fun ha4=>?_) (fun ha4=>?_)
 ·
  refine qG (kX rfl (.q 0 (.q 1 (.q 2 (.q 3 (.q 5 (.q 6 (.q 7 ((.l 4 [7] ((.l 8 [] ((.l 9 [] (.done)))))))))))))) Kr ?_)
  refine qK rfl rfl rfl rfl (qK rfl rfl rfl rfl (qL (k:=1) rfl rfl rfl rfl υ'71 rfl ζ'3 rfl ?_))
  refine qP (j:=1) rfl rfl rfl rfl α'3 Tk Az (by rfl) ?_
  refine qK rfl rfl rfl rfl (qL (k:=1) rfl rfl rfl rfl υ'71 rfl ζ'3 rfl ?_)
  refine qP (j:=1) rfl rfl rfl rfl α'3 Tk Az (by rfl) ?_
  have sp_13:=Fa.vector_spec pa pc po poc d x hx u
  refine qM rfl rfl rfl rfl rfl rfl Try.call19 (sp_13) Ts ?_
  rintro ⟨vaa,vac⟩ -
  try simp only [List.cons_append,List.nil_append]
  refine qH (q:=1) rfl rfl rfl α'3 Tk Az (by rfl) ?_
  refine qV ?_
  have sp_14:=Fr.rvector_spec qa qc r M x hx u
  refine qM rfl rfl rfl rfl rfl rfl Try.call61 (sp_14) Ts ?_
  rintro ⟨vba,vbc⟩ -
  try simp only [List.cons_append,List.nil_append]
  refine qV ?_
  have hbn_1:=(hB).cn
  have hbn_2:=(hB).fn
  have hbn_3:B.C.length=B.W.length:=by simpa using congrArg List.length (hB).c
  have hbn_4:B.F.length=B.G.length:=by simpa using congrArg List.length (hB).f
  have sp_16:=bclocks_spec b B (thF x.v u) (thF x.v u) vaa vba ((thF x.v u).length) vac ((thF x.v u).length) vbc rfl rfl Om Om Om Om
  refine qM rfl rfl rfl rfl rfl rfl Try.call68 (sp_16) Ts ?_
  rintro ⟨⟩ -
  obtain ⟨B_15,hB_15d⟩:∃ B_:BK,B_=(⟨B.C++[(vaa,vac,(thF x.v u))],B.W++[(vba,vbc,(thF x.v u))],B.F,B.G⟩:BK):=⟨_,rfl⟩
  rw [← hB_15d]
  have hB_15:=bok_c (x:=((vaa,vac,(thF x.v u)):LstA _)) (y:=((vba,vbc,(thF x.v u)):LstA _)) (hB) rfl (by exact hwl2)
  rw [← hB_15d] at hB_15
  try simp only [List.cons_append,List.nil_append]
  refine qV (qS (qW [0,1,3,6] (e':=[(0,_),(1,_),(3,_),(6,_)]) rfl ?_))
  refine qQ (kX rfl (.q 0 (.q 1 (.q 2 (.q 3 (.q 5 (.q 6 (.q 7 ((.l 4 [7] ((.l 8 [] ((.l 9 [] (.done)))))))))))))) Kr ?_)
  refine qK rfl rfl rfl rfl (qK rfl rfl rfl rfl (qL (k:=1) rfl rfl rfl rfl υ'71 rfl ζ'3 rfl ?_))
  refine qP (j:=1) rfl rfl rfl rfl α'3 Tk Az (by rfl) ?_
  refine qK rfl rfl rfl rfl (qL (k:=1) rfl rfl rfl rfl υ'71 rfl ζ'3 rfl ?_)
  refine qP (j:=1) rfl rfl rfl rfl α'3 Tk Az (by rfl) ?_
  have sp_17:=Fa.vector_spec pa pc po poc d x hx u
  refine qM rfl rfl rfl rfl rfl rfl Try.call19 (sp_17) Ts ?_
  rintro ⟨vca,vcc⟩ -
  try simp only [List.cons_append,List.nil_append]
  refine qH (q:=1) rfl rfl rfl α'3 Tk Az (by rfl) ?_
  refine qV ?_
  have sp_18:=Fr.rvector_spec qa qc r M x hx u
  refine qM rfl rfl rfl rfl rfl rfl Try.call61 (sp_18) Ts ?_
  rintro ⟨vda,vdc⟩ -
  try simp only [List.cons_append,List.nil_append]
  refine qV ?_
  have hbn_1:=(hB_15).cn
  have hbn_2:=(hB_15).fn
  have hbn_3:B_15.C.length=B_15.W.length:=by simpa using congrArg List.length (hB_15).c
  have hbn_4:B_15.F.length=B_15.G.length:=by simpa using congrArg List.length (hB_15).f
  have sp_20:=bclocks_spec b B_15 (thF x.v u) (thF x.v u) vca vda ((thF x.v u).length) vcc ((thF x.v u).length) vdc rfl rfl Om Om Om Om
  refine qM rfl rfl rfl rfl rfl rfl Try.call68 (sp_20) Ts ?_
  rintro ⟨⟩ -
  obtain ⟨B_19,hB_19d⟩:∃ B_:BK,B_=(⟨B_15.C++[(vca,vcc,(thF x.v u))],B_15.W++[(vda,vdc,(thF x.v u))],B_15.F,B_15.G⟩:BK):=⟨_,rfl⟩
  rw [← hB_19d]
  have hB_19:=bok_c (x:=((vca,vcc,(thF x.v u)):LstA _)) (y:=((vda,vdc,(thF x.v u)):LstA _)) (hB_15) rfl (by exact hwl2)
  rw [← hB_19d] at hB_19
  try simp only [List.cons_append,List.nil_append]
  refine qV (qS (qW [] (e':=[]) rfl ?_))
  refine kK (qQ (qG (qC (.q 0 (.done)) Kr ?_)))
  refine qR rfl rfl rfl rfl (qS (qQ (qJ ?_)))
  rw [ask0 Om Om]
  refine cR rfl rfl ((M,B_19)) (by first | rfl | (first | rfl | (congr 1;done) | (congr 1 <;> first | rfl | omega | (simp;done) | (simp;omega)))) (by exact ⟨fun q_ h_=>h_,bok_more hB_19 Om⟩) ?_
  exact Tf
 refine qG (qC (.q 0 (.q 1 (.done))) Kr ?_)
 refine qN rfl rfl rfl rfl rfl (cS _ _ _ _) ?_
 refine qR rfl rfl rfl rfl (qS (qW [0,1,3,19,120] (e':=[(0,_),(1,_),(3,_),(19,_),(120,_)]) rfl ?_))
 refine qQ ?_
 refine qB rfl (fun ha5=>?_) (fun ha5=>?_)
 ·
  refine qG (qC (.q 0 (.q 1 ((.l 2 [] (.q 3 ((.l 4 [] ((.l 5 [] (.done)))))))))) Kr ?_)
  refine qK rfl rfl rfl rfl (qK rfl rfl rfl rfl ?_)
  have sp_21:=Fa.flags_spec pa pc po poc d x hx
  refine qM rfl rfl rfl rfl rfl rfl κ'22 (sp_21) Ts ?_
  rintro ⟨faa,fac⟩ -
  try simp only [List.cons_append,List.nil_append]
  refine qV (qK rfl rfl rfl rfl ?_)
  have sp_22:=Fr.rflags_spec qa qc r M x hx 
  refine qM rfl rfl rfl rfl rfl rfl Try.call56 (sp_22) Ts ?_
  rintro ⟨fba,fbc⟩ -
  try simp only [List.cons_append,List.nil_append]
  refine qV ?_
  have hbn_1:=(hB).cn
  have hbn_2:=(hB).fn
  have hbn_3:B.C.length=B.W.length:=by simpa using congrArg List.length (hB).c
  have hbn_4:B.F.length=B.G.length:=by simpa using congrArg List.length (hB).f
  have sp_24:=bflags_spec b B (flFF x.vs) (flFF x.vs) faa fba ((flFF x.vs).length) fac ((flFF x.vs).length) fbc rfl rfl Om Om Om Om
  refine qM rfl rfl rfl rfl rfl rfl Try.call69 (sp_24) Ts ?_
  rintro ⟨⟩ -
  obtain ⟨B_23,hB_23d⟩:∃ B_:BK,B_=(⟨B.C,B.W,B.F++[(faa,fac,(flFF x.vs))],B.G++[(fba,fbc,(flFF x.vs))]⟩:BK):=⟨_,rfl⟩
  rw [← hB_23d]
  have hB_23:=bok_f (x:=((faa,fac,(flFF x.vs)):LstA _)) (y:=((fba,fbc,(flFF x.vs)):LstA _)) (hB) rfl (by show (flFF x.vs).length≤_;omega)
  rw [← hB_23d] at hB_23
  try simp only [List.cons_append,List.nil_append]
  refine qV (qS (qW [0,1,3] (e':=[(0,_),(1,_),(3,_)]) rfl ?_))
  refine qQ (qC (.q 0 (.q 1 ((.l 2 [] (.q 3 ((.l 4 [] ((.l 5 [] (.done)))))))))) Kr ?_)
  refine qK rfl rfl rfl rfl (qK rfl rfl rfl rfl ?_)
  have sp_25:=Fa.flags_spec pa pc po poc d x hx
  refine qM rfl rfl rfl rfl rfl rfl κ'22 (sp_25) Ts ?_
  rintro ⟨fca,fcc⟩ -
  try simp only [List.cons_append,List.nil_append]
  refine qV (qK rfl rfl rfl rfl ?_)
  have sp_26:=Fr.rflags_spec qa qc r M x hx 
  refine qM rfl rfl rfl rfl rfl rfl Try.call56 (sp_26) Ts ?_
  rintro ⟨fda,fdc⟩ -
  try simp only [List.cons_append,List.nil_append]
  refine qV ?_
  have hbn_1:=(hB_23).cn
  have hbn_2:=(hB_23).fn
  have hbn_3:B_23.C.length=B_23.W.length:=by simpa using congrArg List.length (hB_23).c
  have hbn_4:B_23.F.length=B_23.G.length:=by simpa using congrArg List.length (hB_23).f
  have sp_28:=bflags_spec b B_23 (flFF x.vs) (flFF x.vs) fca fda ((flFF x.vs).length) fcc ((flFF x.vs).length) fdc rfl rfl Om Om Om Om
  refine qM rfl rfl rfl rfl rfl rfl Try.call69 (sp_28) Ts ?_
  rintro ⟨⟩ -
  obtain ⟨B_27,hB_27d⟩:∃ B_:BK,B_=(⟨B_23.C,B_23.W,B_23.F++[(fca,fcc,(flFF x.vs))],B_23.G++[(fda,fdc,(flFF x.vs))]⟩:BK):=⟨_,rfl⟩
  rw [← hB_27d]
  have hB_27:=bok_f (x:=((fca,fcc,(flFF x.vs)):LstA _)) (y:=((fda,fdc,(flFF x.vs)):LstA _)) (hB_23) rfl (by show (flFF x.vs).length≤_;omega)
  rw [← hB_27d] at hB_27
  try simp only [List.cons_append,List.nil_append]
  refine qV (qS (qW [] (e':=[]) rfl ?_))
  refine kK (qQ (qG (qC (.q 0 (.done)) Kr ?_)))
  refine qR rfl rfl rfl rfl (qS (qQ (qJ ?_)))
  rw [ask0 Om Om]
  refine cR rfl rfl ((M,B_27)) (by first | rfl | (first | rfl | (congr 1;done) | (congr 1 <;> first | rfl | omega | (simp;done) | (simp;omega)))) (by exact ⟨fun q_ h_=>h_,bok_more hB_27 Om⟩) ?_
  exact Tf
 refine qG (qC (.q 0 (.q 1 (.done))) Kr ?_)
 refine qN rfl rfl rfl rfl rfl (cS _ _ _ _) ?_
 refine qR rfl rfl rfl rfl (qS (qW [0,1,134] (e':=[(0,_),(1,_),(134,_)]) rfl ?_))
 refine qQ ?_
 refine qB rfl (fun ha6=>?_) (fun ha6=>?_)
 ·
  refine qG (qC (.q 0 ((.l 1 [] (.q 2 ((.l 3 [] (.q 4 (.q 5 (.done))))))))) Kr ?_)
  refine qK rfl rfl rfl rfl ?_
  have sp_29:=Fa.cost_spec pa pc po poc d x hx
  refine qM rfl rfl rfl rfl rfl rfl Try.call17 (sp_29) Ts ?_
  rintro ⟨⟩ -
  try simp only [List.cons_append,List.nil_append]
  refine qV (qK rfl rfl rfl rfl ?_)
  have sp_31:=Fr.rcost_spec qa qc r M x  
  refine qM rfl rfl rfl rfl rfl rfl Try.call57 (sp_31) Ts ?_
  rintro ⟨⟩ -
  try simp only [List.cons_append,List.nil_append]
  refine qV (qN rfl rfl rfl rfl rfl (cS _ _ _ _) ?_)
  refine kH 140 rfl (v':=.bool true) (by first | rfl | simp) ?_
  refine qR rfl rfl rfl rfl (qS (qW [8] (e':=[(8,_)]) rfl ?_))
  refine qQ (qJ (cC (qD ?_)))
  rw [ask0 Om Om]
  refine cR rfl rfl ((M,B)) (by first | rfl | (first | rfl | (congr 1;done) | (congr 1 <;> first | rfl | omega | (simp;done) | (simp;omega)))) (by exact ⟨fun q_ h_=>h_,bok_more hB Om⟩) ?_
  exact Tf
 refine qF (kK (qQ (qG (qC (.q 0 (.done)) Kr ?_))))
 refine qR rfl rfl rfl rfl (qS (qQ (qJ ?_)))
 rw [ask0 Om Om]
 refine cR rfl rfl ((M,B)) (by first | rfl | (first | rfl | (congr 1;done) | (congr 1 <;> first | rfl | omega | (simp;done) | (simp;omega)))) (by exact ⟨fun q_ h_=>h_,bok_more hB Om⟩) ?_
 exact Tf
theorem plays_ok (th va vo lk:Int) (pl:List Int) (ao:Option Addr) (n c:Nat) (A:HProp) (hr:RdS A ao (pl.flatMap encZ)) (hn:pl.length=n) (hb:n≤4000000) (L:List T5) (so:Option Addr) (m sc:Nat) (hs:RdS A so (L.flatMap enc5)) (hm:L.length=m) (hmb:m≤1900000) (hok:OkS th va vo lk pl):Spec Try.prog 7 [.agg #[.int .i64 th,.int .i64 va,.int .i64 vo,.int .i64 lk,.slice ao n c],.slice so m sc] [A] (fun (_:Unit)=>.bool true) (fun _=>True) (fun _=>[A]):=by
 refine kP (n:=141) Try.func7 rfl rfl rfl ?_
 intro Γ w0
 simp only [argE,List.cons_append,List.nil_append,Nat.zero_add,Nat.reduceAdd]
 refine qG (qC ((.l 0 [] (.q 1 (.done)))) Kr ?_)
 refine sX rfl rfl rfl rfl (us:=[_,_,_,_,_]) rfl ?_
 intro b2
 refine qV (qR rfl rfl rfl rfl (qS (qQ (qG (qC (.q 0 ((.l 1 [] ((.l 2 [] (.done)))))) Kr ?_)))))
 refine kN rfl rfl rfl rfl α'25 ζ'25 Tk 0 (us:=[_,_,_,_,_]) Az rfl rfl ?_
 refine cF rfl rfl rfl Try.zeroValue25 (zs:=[.int .i64 0,.int .i64 0,.int .i64 0,.int .i64 0,.slice none 0 0]) rfl ?_
 intro b5
 refine qV (kR (j:=0) rfl rfl rfl rfl ζ'25 (us:=[_,_,_,_,_]) rfl rfl rfl Tk Az (by first | decide | (simp;done) | omega) ?_)
 simp only [setL,List.set]
 refine qV (qS (qQ (qG (kX rfl (.q 0 (.q 1 (.q 5 (.q 6 (.q 7 ((.alt (.l 2 [6,7] ((.l 3 [6,7] ((.l 4 [6,7] (.q 8 (.q 9 ((.l 10 [] (.done)))))))))) (.l 3 [1,6,7] ((.l 2 [6,7] ((.l 4 [6,7] (.q 8 (.q 9 ((.l 10 [] (.done))))))))))))))))) Kr ?_))))
 refine qL (k:=4) rfl rfl rfl rfl υ'25 rfl ζ'23 rfl ?_
 refine qP (j:=4) rfl rfl rfl rfl α'23 Tk Az (by rfl) ?_
 refine qL (k:=4) rfl rfl rfl rfl υ'25 rfl ζ'23 rfl ?_
 refine qP (j:=4) rfl rfl rfl rfl α'23 Tk Az (by rfl) ?_
 refine cH rfl rfl rfl rfl υ'23 ?_
 refine r_alt ?_ ?_
 ·
  refine kF (fun _ h=>cJ (sz:=1) (enc:=encZ) h) ?_
  refine sV (sz:=1) (enc:=encZ) (xs:=[]) rfl rfl rfl rfl rfl υ'23 τ'3 rfl rfl rfl (by decide) Tk Tk (by first | rfl | omega | (simp;done) | (simp;omega)) (ys:=pl) (hr) (by rfl) (by first | rfl | omega) (encZ_len) (encZ_one) Om (by show _*8≤_;omega) ?_
  intro ao18 cp18
  try simp only [List.nil_append]
  refine kH 18 rfl (v':=.slice ao18 n cp18) (by first | rfl | (congr 1;done) | (congr 1 <;> first | rfl | omega | (simp;done) | (simp;omega))) ?_
  refine qH (q:=4) rfl rfl rfl α'23 Tk Az (by rfl) ?_
  refine ag_len rfl rfl rfl υ'23 ?_
  refine qV (cG rfl rfl rfl rfl (cB (us:=[_]) υ'23 ζ'3 rfl ω'3 rfl rfl rfl) ?_)
  intro b19
  refine qH (q:=4) rfl rfl rfl α'23 Tk Az (by rfl) ?_
  refine ag_len rfl rfl rfl υ'23 ?_
  refine qV (sV (sz:=1) (enc:=encZ) (xs:=(pl)) rfl rfl rfl rfl rfl υ'23 τ'3 rfl rfl rfl (by decide) Tk Tk (by first | rfl | omega | (simp;done) | (simp;omega)) (ys:=[(-71)]) (sW sC) (by rfl) (by first | rfl | omega) (encZ_len) (encZ_one) Om (by show _*8≤_;omega) ?_)
  intro ao20 cp20
  refine qH (q:=4) rfl rfl rfl α'23 Tk Az (by rfl) ?_
  refine ag_len rfl rfl rfl υ'23 ?_
  refine qV (cK (A:=own 1 encZ ao20 cp20 (pl++[(-71)])) Tk ?_)
  refine rQ fun wt1 wt2 wt3=>?_
  have hwt1:=wt1
  simp only [List.length_append,List.length_singleton] at hwt1
  refine q_cut_hi (h':=n) rfl rfl rfl rfl rfl υ'23 ζ'3 (by first | rfl | omega) Om ?_
  refine cK (A:=own 1 encZ ao20 cp20 ((pl)++([(-71)]))) Tk ?_
  refine rQ fun f_1a f_1b f_1c=>?_
  refine qL (k:=4) rfl rfl rfl rfl υ'25 rfl ζ'23 rfl ?_
  refine kR (j:=4) rfl rfl rfl rfl ζ'23 (us:=[_]) rfl rfl rfl Tk Az (by first | decide | (simp;done) | omega) ?_
  simp only [setL,List.set]
  refine qV (qS (qW [1,2,5] (e':=[(1,_),(2,_),(5,_)]) rfl ?_))
  refine qQ (qG (qC (.q 0 ((.l 1 [] (.q 2 (.q 3 (.q 4 (.q 5 (.q 6 (.done))))))))) Kr ?_))
  refine kN rfl rfl rfl rfl α'25 ζ'25 Tk 0 (us:=[_,_,_,_,_]) Az rfl rfl ?_
  have sp_2:=Fa.new_spec th va vo lk pl ao20 n cp20 (own 1 encZ ao20 cp20 (pl++[(-71)])) ((own_front encZ_len wt2 wt3)) Ln Om hok
  refine qM rfl rfl rfl rfl rfl rfl κ'9 (sp_2) Ts ?_
  rintro ⟨d,⟨dpa,dpc⟩,dpo,dpoc⟩ -
  try simp only [List.cons_append,List.nil_append]
  refine qV (qK rfl rfl rfl rfl (kW rfl rfl rfl rfl rfl (kW rfl rfl rfl rfl rfl (qR rfl rfl rfl rfl (qR rfl rfl rfl rfl (qS (qW [1,2,5,6,7] (e':=[(1,_),(2,_),(5,_),(6,_),(7,_)]) rfl ?_)))))))
  refine qQ (qG (sH (f:=owA 1 encU) ?_))
  refine qC (.q 0 ((.l 1 [] (.q 2 (.q 3 (.q 4 (.q 5 (.q 6 (.done))))))))) Kr ?_
  refine kN rfl rfl rfl rfl α'25 ζ'25 Tk 0 (us:=[_,_,_,_,_]) Az rfl rfl ?_
  have sp_3:=Fr.rnew_spec th va vo lk pl ao n c A (hr)  Ln Om [] hok
  refine qM rfl rfl rfl rfl rfl rfl κ'10 (sp_3) Ts ?_
  rintro ⟨u,⟨upa,upc⟩,uH⟩ huH
  try simp only [List.cons_append,List.nil_append]
  refine qV (qK rfl rfl rfl rfl (kW rfl rfl rfl rfl rfl (kW rfl rfl rfl rfl rfl (qR rfl rfl rfl rfl (qR rfl rfl rfl rfl (qS (qW [1,2,5,6,7,8,9] (e':=[(1,_),(2,_),(5,_),(6,_),(7,_),(8,_),(9,_)]) rfl ?_)))))))
  refine qQ (qG (qG (cK (A:=own 1 encZ ao20 cp20 (pl++[(-71)])) Tk ?_)))
  refine rQ fun wu1 wu2 wu3=>?_
  have hwu1:=wu1
  simp only [List.length_append,List.length_singleton] at hwu1
  have hm71:(pl++[(-71)])[n]?=some (-71):=by rw [← hn];exact app_at _ _
  refine kX rfl (.q 0 (.q 1 (.q 2 (.q 3 (.q 4 (.q 5 (.q 6 (.q 7 (.q 8 (.q 9 (.q 10 (.q 11 (.q 12 (.q 13 (.q 14 (.q 15 (.q 16 (.q 17 (.q 18 (.q 19 (.q 20 (.q 21 (.q 22 (.q 23 (.q 24 (.done)))))))))))))))))))))))))) Kr ?_
  refine qK rfl rfl rfl rfl (qK rfl rfl rfl rfl (qN rfl rfl rfl rfl rfl (b_neq _ _ _ _) ?_))
  refine kH 38 rfl (v':=.bool false) (by first | rfl | simp) ?_
  refine qK rfl rfl rfl rfl (qK rfl rfl rfl rfl (cY rfl rfl rfl rfl υ'27 ?_))
  refine kH 41 rfl (v':=.bool false) rfl ?_
  refine qK rfl rfl rfl rfl (cY rfl rfl rfl rfl υ'31 ?_)
  refine kH 43 rfl (v':=.bool false) rfl ?_
  refine q_neb rfl rfl rfl rfl rfl υ'4 ?_
  refine kH 44 rfl (v':=.bool false) rfl ?_
  refine kC rfl rfl rfl rfl rfl (qK rfl rfl rfl rfl (qL (k:=4) rfl rfl rfl rfl υ'25 rfl ζ'23 rfl ?_))
  refine qP (j:=4) rfl rfl rfl rfl α'23 Tk Az (by rfl) ?_
  refine qL (k:=4) rfl rfl rfl rfl υ'25 rfl ζ'23 rfl ?_
  refine qP (j:=4) rfl rfl rfl rfl α'23 Tk Az (by rfl) ?_
  refine cH rfl rfl rfl rfl υ'23 ?_
  refine qN rfl rfl rfl rfl rfl (cV _ (by exact kG Om Om)) ?_
  refine q_cut_hi (h':=n+1) rfl rfl rfl rfl rfl υ'23 ζ'3 (by first | rfl | omega) Om ?_
  refine qL (k:=4) rfl rfl rfl rfl υ'25 rfl ζ'23 rfl ?_
  refine qP (j:=4) rfl rfl rfl rfl α'23 Tk Az (by rfl) ?_
  refine cH rfl rfl rfl rfl υ'23 ?_
  refine kY (sz:=0) (k:=n) (enc:=encZ) (xs:=(pl++[(-71)])) rfl rfl rfl rfl rfl υ'23 ζ'3 hm71 (by first | rfl | omega) Om Tk ?_
  intro ib57 io57 ha57 hl57 hc57
  refine kQ (v:=(.int .i64 (-71))) (j:=0) (k':=n) (enc:=encZ) (off:=io57) rfl rfl rfl rfl α'3 ha57 encZ_len hm71 Tk (by first | rfl | exact (Nat.add_zero _).symm | omega) (by rfl) ?_
  refine qN rfl rfl rfl rfl rfl (b_neq _ _ _ _) ?_
  refine kH 59 rfl (v':=.bool false) (by first | rfl | simp) ?_
  refine kC rfl rfl rfl rfl rfl (qS (qW [1,2,5,6,8,60] (e':=[(1,_),(2,_),(5,_),(6,_),(8,_),(60,_)]) rfl ?_))
  refine qQ (kB rfl ?_)
  refine qF (qQ (qG (qG (qC (.q 0 (.done)) Kr ?_))))
  refine qR rfl rfl rfl rfl (qS (qQ (kS ?_)))
  refine cD (α:=Nat × List Int) (fun (x_:Nat × List Int)=>match x_ with | (z,f)=>z≤n∧(f.length=n+1)∧(∀ j:Nat,z≤j→j < n→f[j]?=pl[j]?)) (fun (x_:Nat × List Int)=>match x_ with | (z,f)=>[(10,.int .i64 ((z:Nat):Int))]) (fun (x_:Nat × List Int)=>match x_ with | (z,f)=>[cells b5 0 [.int .i64 th,.int .i64 va,.int .i64 vo,.int .i64 lk,.slice ao20 n cp20],own 1 encZ ao20 cp20 f]) (fun (x_:Nat × List Int)=>match x_ with | (z,f)=>n - z) [1,2,5,6,8] (er:=[(1,_),(2,_),(5,_),(6,_),(8,_)]) rfl (0,(pl++[(-71)])) ?_ (by exact ⟨rfl,trivial⟩) (by (try dsimp only);(try simp only [Nat.add_zero,Nat.zero_add]);(repeat ((with_reducible apply Z2);focus (first | (with_reducible (repeat (first | exact Z0 | apply Z1));done) | (repeat (first | exact Z0 | apply Z1)))));exact Z3) ?_
  · exact ⟨Nat.zero_le _,by rw [List.length_append,hn];rfl,fun j _ hj=>List.getElem?_append_left Om⟩
  rintro ⟨z,f⟩ ⟨hle_z,hfl,hfq⟩
  try simp only [List.cons_append,List.nil_append]
  refine qG (qG (qC (.q 0 (.q 1 (.q 2 (.q 3 (.q 4 (.done)))))) Kr ?_))
  refine qK rfl rfl rfl rfl (qL (k:=4) rfl rfl rfl rfl υ'25 rfl ζ'23 rfl ?_)
  refine qP (j:=4) rfl rfl rfl rfl α'23 Tk Az (by rfl) ?_
  refine cH rfl rfl rfl rfl υ'23 ?_
  refine qN rfl rfl rfl rfl rfl (sK _ _ _ _) ?_
  refine qS (qW [1,2,5,6,8,10,65] (e':=[(1,_),(2,_),(5,_),(6,_),(8,_),(10,_),(65,_)]) rfl ?_)
  refine qQ ?_
  refine qB rfl (fun hlt=>?_) (fun hlt=>?_)
  ·
   refine qF (qQ (qG (kS (qG (qG ?_)))))
   obtain ⟨p,hp⟩:=cP (l:=pl) (i:=z) Om
   have hpf:f[z]?=some p:=(hfq z (Nat.le_refl _) Om).trans hp
   refine kX rfl (.q 0 (.q 1 (.q 2 (.q 3 (.q 4 (.q 5 (.q 6 (.q 7 (.q 8 (.q 9 (.q 10 (.done)))))))))))) Kr ?_
   refine qL (k:=4) rfl rfl rfl rfl υ'25 rfl ζ'23 rfl ?_
   refine qP (j:=4) rfl rfl rfl rfl α'23 Tk Az (by rfl) ?_
   refine qK rfl rfl rfl rfl (kY (sz:=0) (k:=z) (enc:=encZ) (xs:=f) rfl rfl rfl rfl rfl υ'23 ζ'3 hpf (by first | rfl | omega) Om Tk ?_)
   intro ib71 io71 ha71 hl71 hc71
   refine kQ (v:=(.int .i64 p)) (j:=0) (k':=z) (enc:=encZ) (off:=io71) rfl rfl rfl rfl α'3 ha71 encZ_len hpf Tk (by first | rfl | exact (Nat.add_zero _).symm | omega) (by rfl) ?_
   refine qL (k:=4) rfl rfl rfl rfl υ'25 rfl ζ'23 rfl ?_
   refine qP (j:=4) rfl rfl rfl rfl α'23 Tk Az (by rfl) ?_
   refine qK rfl rfl rfl rfl (rC (sz:=0) (k:=z) rfl rfl rfl rfl rfl υ'23 ζ'3 (hr) hp encZ_len (by first | rfl | omega) Om ?_)
   intro ib76 io76 _ hd76
   refine q_load rfl rfl rfl rfl α'3 Tk (hd76 0 (.int .i64 p) rfl) ?_
   refine qN rfl rfl rfl rfl rfl (b_neq _ _ _ _) ?_
   refine kH 78 rfl (v':=.bool false) (by first | rfl | simp) ?_
   refine qS (qW [1,2,5,6,8,10,78] (e':=[(1,_),(2,_),(5,_),(6,_),(8,_),(10,_),(78,_)]) rfl ?_)
   refine qQ (kB rfl ?_)
   refine qF (qQ (qC (.q 0 (.q 1 (.q 2 (.q 3 ((.l 4 [] (.done))))))) Kr ?_))
   refine qL (k:=4) rfl rfl rfl rfl υ'25 rfl ζ'23 rfl ?_
   refine qP (j:=4) rfl rfl rfl rfl α'23 Tk Az (by rfl) ?_
   refine qK rfl rfl rfl rfl (kY (sz:=0) (k:=z) (enc:=encZ) (xs:=f) rfl rfl rfl rfl rfl υ'23 ζ'3 hpf (by first | rfl | omega) Om Tk ?_)
   intro ib82 io82 ha82 hl82 hc82
   refine kJ (j:=0) (k:=z) (q:=77) (enc:=encZ) (off:=io82) rfl rfl rfl rfl ζ'3 (us:=[_]) rfl rfl rfl ha82 encZ_len hpf Tk (by first | rfl | exact (Nat.add_zero _).symm | omega) (by first | decide | exact Nat.le_of_ble_eq_true rfl) (by rfl) ?_
   refine qV (qS (qW [1,2,5,6,8,10] (e':=[(1,_),(2,_),(5,_),(6,_),(8,_),(10,_)]) rfl ?_))
   refine kK (qQ (qC (.q 0 (.q 1 (.q 2 (.done)))) Kr ?_))
   refine qK rfl rfl rfl rfl (qN rfl rfl rfl rfl rfl (cV _ (by exact kG Om Om)) ?_)
   refine qR rfl rfl rfl rfl (qS (qQ ?_))
   refine cQ (x:=(z,f)) ((z+1,f.set z 77)) ?_ ?_ ?_ ?_
   · try dsimp only
     exact ⟨by omega,by rw [List.length_set];exact hfl,fun j h1 h2=>by rw [List.getElem?_set_ne Om];exact hfq j Om h2⟩
   · show n - (z+1) < n - z;omega
   · exact ⟨rfl,rfl,rfl,rfl,rfl,rfl,trivial⟩
   · (try simp only [List.cons_append,List.nil_append]);exact Tf
  refine cM (qZ (qZ (kV (qQ (qG (qG (qC (.q 0 (.q 1 (.done))) Kr ?_)))))))
  refine qK rfl rfl rfl rfl (cY rfl rfl rfl rfl υ'27 ?_)
  refine kH 84 rfl (v':=.bool false) rfl ?_
  refine qS (qW [1,6,8,84] (e':=[(1,_),(6,_),(8,_),(84,_)]) rfl ?_)
  refine qQ (kB rfl ?_)
  refine qF (qQ (qG (qC (.q 0 (.done)) Kr ?_)))
  refine qR rfl rfl rfl rfl (qS (qQ (qG (qC (.q 0 (.done)) Kr ?_))))
  refine qR rfl rfl rfl rfl (qS (qQ (qG (qC (.q 0 ((.l 1 [] (.q 2 (.done))))) Kr ?_))))
  refine cX rfl rfl rfl rfl (vs:=[_,_,_,_,_,_]) (kM υ'69 Try.zeroValue69 (ps:=[(0,1),(1,1),(2,1),(3,1),(4,1),(5,1)]) ⟨rfl,ζ'66,rfl,ζ'66,rfl,ζ'66,rfl,ζ'67,rfl,ζ'67,rfl,ζ'67,trivial⟩ rfl) ?_
  refine sX rfl rfl rfl rfl (us:=[_,_,_,_,_,_]) rfl ?_
  intro b87
  refine qV (qR rfl rfl rfl rfl (qS (kF (fun _ h=>cJ (sz:=1) (enc:=(encH:LstA Int→List Value)) h) ?_)))
  refine kF (fun _ h=>cJ (sz:=1) (enc:=(encH:LstA Int→List Value)) h) ?_
  refine kF (fun _ h=>cJ (sz:=1) (enc:=(encH:LstA T2→List Value)) h) ?_
  refine kF (fun _ h=>cJ (sz:=1) (enc:=(encH:LstA T2→List Value)) h) ?_
  refine sH (f:=owA 1 encU) ?_
  refine sH (f:=owA 1 encU) ?_
  refine sH (f:=owA 2 enc2) ?_
  refine sH (f:=owA 2 enc2) ?_
  refine bk_fold (b:=b87) (C:=[]) (W:=[]) (F:=[]) (G:=[]) (ca:=none) (cc:=0) (wa:=none) (wc:=0) (fa:=none) (fc:=0) (ga:=none) (gc:=0) Ts rfl rfl rfl rfl ?_
  refine qQ (qG (qG ?_))
  have hxn:=(new_finv hok (new_inv hok))
  have hz0:(fNew th va vo lk pl).v.ck.n=0:=rfl
  refine oth_nil (pa:=dpa) (pc:=dpc) (po:=dpo) (poc:=dpoc) (qa:=upa) (qc:=upc) (M:=[]++[uH]) ?_
  refine qC (.q 0 (.done)) Kr ?_
  refine qR rfl rfl rfl rfl (qS (qQ (kS ?_)))
  refine cD (α:=Nat × Nat × Nat × FS × List H × BK × Option (Nat × Nat × FS)) (fun (x_:Nat × Nat × Nat × FS × List H × BK × Option (Nat × Nat × FS))=>match x_ with | (i,b,q,x,M,Bk,o)=>i≤m∧(FInv x)∧(x.v.ck.n≤((2*i:Nat):Int))∧(x.v.ck.pa=pl)∧(BOk (2*i) Bk)∧(∀ z,o=some z→FInv z.2.2∧z.2.2.v.ck.n≤((2*i:Nat):Int)∧z.2.2.v.ck.pa=pl)) (fun (x_:Nat × Nat × Nat × FS × List H × BK × Option (Nat × Nat × FS))=>match x_ with | (i,b,q,x,M,Bk,o)=>[(6,.pointer (some ⟨b,0,none⟩)),(8,.pointer (some ⟨q,0,none⟩)),(11,.pointer (o.map fun z=>(⟨z.1,0,none⟩:Addr))),(12,.pointer (o.map fun z=>(⟨z.2.1,0,none⟩:Addr))),(14,.int .i64 ((i:Nat):Int))]) (fun (x_:Nat × Nat × Nat × FS × List H × BK × Option (Nat × Nat × FS))=>match x_ with | (i,b,q,x,M,Bk,o)=>[dfR dpa dpc dpo dpoc b x,rfR upa upc q M x,bigS (owA 1 encU) M,bookR b87 Bk,oth dpa dpc dpo dpoc upa upc M o,own 1 encZ dpa dpc pl,own 1 encZ dpo dpoc pl,own 1 encZ upa upc pl]) (fun (x_:Nat × Nat × Nat × FS × List H × BK × Option (Nat × Nat × FS))=>match x_ with | (i,b,q,x,M,Bk,o)=>m - i) [1,13] (er:=[(1,_),(13,_)]) rfl (0,d,u,(fNew th va vo lk pl),[]++[uH],⟨[],[],[],[]⟩,none) ?_ (by exact ⟨rfl,rfl,rfl,rfl,rfl,trivial⟩) (by (try dsimp only);(try simp only [Nat.add_zero,Nat.zero_add]);(repeat ((with_reducible apply Z2);focus (first | (with_reducible (repeat (first | exact Z0 | apply Z1));done) | (repeat (first | exact Z0 | apply Z1)))));exact Z3) ?_
  · exact ⟨Nat.zero_le _,hxn,Int.le_refl _,rfl,bok_nil,fun z hz=>by cases hz⟩
  rintro ⟨i,b,q,x,M,Bk,o⟩ ⟨hle_i,hx,hxm,hxp,hBk,ho⟩
  try simp only [List.cons_append,List.nil_append]
  refine qG (qG (qC (.q 0 (.q 1 (.q 2 (.q 3 (.done))))) Kr ?_))
  refine qK rfl rfl rfl rfl (qK rfl rfl rfl rfl (cH rfl rfl rfl rfl υ'64 ?_))
  refine qN rfl rfl rfl rfl rfl (sK _ _ _ _) ?_
  refine qS (qQ ?_)
  refine qB rfl (fun hlt2=>?_) (fun hlt2=>?_)
  ·
   refine qF (qQ (qG (kS (qG (qC (.q 0 (.q 1 (.q 2 (.q 3 (.q 4 (.done)))))) Kr ?_)))))
   refine qK rfl rfl rfl rfl (qK rfl rfl rfl rfl ?_)
   obtain ⟨s_,hs_⟩:=cP (l:=L) (i:=i) (by first | omega | (simp;done) | (simp;omega))
   refine rC (sz:=4) (k:=i) rfl rfl rfl rfl rfl υ'64 ζ'71 (hs) hs_ enc5_len (by first | rfl | omega) Om ?_
   intro ib96 io96 _ hd96
   refine qL (k:=0) rfl rfl rfl rfl υ'71 rfl ζ'3 rfl ?_
   refine q_load rfl rfl rfl rfl α'3 Tk (hd96 0 (.int .i64 s_.1) rfl) ?_
   refine qS (qW [1,6,8,11,12,13,14,98] (e':=[(1,_),(6,_),(8,_),(11,_),(12,_),(13,_),(14,_),(98,_)]) rfl ?_)
   refine qQ (kS (qG (qC (.q 0 (.q 1 (.done))) Kr ?_)))
   refine qN rfl rfl rfl rfl rfl (cS _ _ _ _) ?_
   refine qR rfl rfl rfl rfl (qS (qQ ?_))
   refine qB rfl (fun h7=>?_) (fun h7=>?_)
   ·
    refine qG (qC (.q 0 (.q 1 (.q 2 (.q 3 (.done))))) Kr ?_)
    refine qK rfl rfl rfl rfl (qK rfl rfl rfl rfl (qR rfl rfl rfl rfl (qR rfl rfl rfl rfl (qS (qW [1,11,12,13,14] (e':=[(1,_),(11,_),(12,_),(13,_),(14,_)]) rfl ?_)))))
    refine qQ (qG (qC (.q 0 ((.l 1 [] (.q 2 ((.l 3 [] (.q 4 (.q 5 (.done))))))))) Kr ?_))
    refine qK rfl rfl rfl rfl ?_
    have sp_4:=Fa.copy_spec dpa dpc dpo dpoc b x hx
    refine qM rfl rfl rfl rfl rfl rfl Try.call20 (sp_4) Ts ?_
    rintro nb -
    try simp only [List.cons_append,List.nil_append]
    refine qV (qK rfl rfl rfl rfl ?_)
    have sp_5:=Fr.rcopy_spec upa upc q M x hx Om
    refine qM rfl rfl rfl rfl rfl rfl Try.call23 (sp_5) Ts ?_
    rintro nq -
    try simp only [List.cons_append,List.nil_append]
    refine qV (qR rfl rfl rfl rfl (qR rfl rfl rfl rfl (qS (qW [1,6,8,11,12,13,14] (e':=[(1,_),(6,_),(8,_),(11,_),(12,_),(13,_),(14,_)]) rfl ?_))))
    refine qQ (qG (qC (.q 0 (.q 1 (.done))) Kr ?_))
    refine qK rfl rfl rfl rfl (cY rfl rfl rfl rfl υ'27 ?_)
    refine kH 117 rfl (v':=.bool false) rfl ?_
    refine qS (qQ (kB rfl ?_))
    refine qF (kK (kK (qQ (qC (.q 0 (.q 1 (.q 2 (.done)))) Kr ?_))))
    refine qK rfl rfl rfl rfl (qN rfl rfl rfl rfl rfl (cV _ (by exact kG Om Om)) ?_)
    refine qR rfl rfl rfl rfl (qS (qW [1,6,8,11,12,13,14] (e':=[(1,_),(6,_),(8,_),(11,_),(12,_),(13,_),(14,_)]) rfl ?_))
    refine qQ (oth_fold (b:=b) (q:=q) (y:=x) Ts ?_)
    refine cQ (x:=(i,b,q,x,M,Bk,o)) ((i+1,nb,nq,x,M,Bk,some (b,q,x))) ?_ ?_ ?_ ?_
    · try dsimp only
      exact ⟨by omega,hx,by omega,hxp,bok_more hBk Om,fun z hz=>by cases hz;exact ⟨hx,by show x.v.ck.n≤_;omega,hxp⟩⟩
    · show m - (i+1) < m - i;omega
    · exact ⟨rfl,rfl,rfl,rfl,rfl,rfl,rfl,trivial⟩
    · (try simp only [List.cons_append,List.nil_append]);exact Tf
   refine qG (qC (.q 0 (.q 1 (.done))) Kr ?_)
   refine qN rfl rfl rfl rfl rfl (cS _ _ _ _) ?_
   refine qR rfl rfl rfl rfl (qS (qW [1,6,8,11,12,13,14,118] (e':=[(1,_),(6,_),(8,_),(11,_),(12,_),(13,_),(14,_),(118,_)]) rfl ?_))
   refine qQ ?_
   refine qB rfl (fun h8=>?_) (fun h8=>?_)
   ·
    refine qG (qC (.q 0 (.q 1 (.done))) Kr ?_)
    refine qK rfl rfl rfl rfl (q_ne_nil rfl rfl rfl rfl υ'27 ?_)
    refine qS (qQ ?_)
    refine c_cond rfl (fun hon=>?_) (fun hon=>?_)
    ·
     try simp only [Bool.and_eq_true,Bool.or_eq_true,Bool.not_eq_true',Bool.not_eq_false',Bool.and_eq_false_iff,Bool.or_eq_false_iff,decide_eq_true_eq,decide_eq_false_iff_not] at hon
     obtain ⟨⟨bz,qz,y⟩,rfl⟩:∃ z,o=some z:=by
       cases o with
       | none=>exact absurd hon (by simp)
       | some z=>exact ⟨z,rfl⟩
     refine cK (A:=oth dpa dpc dpo dpoc upa upc M (some (bz,qz,y))) Tk ?_
     refine oth_open ?_
     obtain ⟨hy1,hy2,hy3⟩:=ho _ rfl
     simp only at hy1 hy2 hy3
     refine qG (qC (.q 0 (.q 1 (.q 2 (.q 3 (.done))))) Kr ?_)
     refine qK rfl rfl rfl rfl (qK rfl rfl rfl rfl (qR rfl rfl rfl rfl (qR rfl rfl rfl rfl (qS (qW [1,6,8,11,12,13,14] (e':=[(1,_),(6,_),(8,_),(11,_),(12,_),(13,_),(14,_)]) rfl ?_)))))
     refine qQ (qC (.q 0 (.q 1 (.q 2 (.q 3 (.done))))) Kr ?_)
     refine qK rfl rfl rfl rfl (qK rfl rfl rfl rfl (qR rfl rfl rfl rfl (qR rfl rfl rfl rfl (qS (kK (kK (qQ (qC (.q 0 (.q 1 (.q 2 (.done)))) Kr ?_))))))))
     refine qK rfl rfl rfl rfl (qN rfl rfl rfl rfl rfl (cV _ (by exact kG Om Om)) ?_)
     refine qR rfl rfl rfl rfl (qS (qW [1,6,8,11,12,13,14] (e':=[(1,_),(6,_),(8,_),(11,_),(12,_),(13,_),(14,_)]) rfl ?_))
     refine qQ (oth_fold (b:=b) (q:=q) (y:=x) Ts ?_)
     refine cQ (x:=(i,b,q,x,M,Bk,some (bz,qz,y))) ((i+1,bz,qz,y,M,Bk,some (b,q,x))) ?_ ?_ ?_ ?_
     · try dsimp only
       exact ⟨by omega,hy1,by omega,hy3,bok_more hBk Om,fun z hz=>by cases hz;exact ⟨hx,by show x.v.ck.n≤_;omega,hxp⟩⟩
     · show m - (i+1) < m - i;omega
     · exact ⟨rfl,rfl,rfl,rfl,rfl,rfl,rfl,trivial⟩
     · (try simp only [List.cons_append,List.nil_append]);exact Tf
    try simp only [Bool.and_eq_true,Bool.or_eq_true,Bool.not_eq_true',Bool.not_eq_false',Bool.and_eq_false_iff,Bool.or_eq_false_iff,decide_eq_true_eq,decide_eq_false_iff_not] at hon
    refine qF (kK (kK (qQ (qC (.q 0 (.q 1 (.q 2 (.done)))) Kr ?_))))
    refine qK rfl rfl rfl rfl (qN rfl rfl rfl rfl rfl (cV _ (by exact kG Om Om)) ?_)
    refine qR rfl rfl rfl rfl (qS (qW [1,6,8,11,12,13,14] (e':=[(1,_),(6,_),(8,_),(11,_),(12,_),(13,_),(14,_)]) rfl ?_))
    refine qQ ?_
    refine cQ (x:=(i,b,q,x,M,Bk,o)) ((i+1,b,q,x,M,Bk,o)) ?_ ?_ ?_ ?_
    · try dsimp only
      exact ⟨by omega,hx,by omega,hxp,bok_more hBk Om,fun z hz=>⟨(ho z hz).1,by have:=(ho z hz).2.1;omega,(ho z hz).2.2⟩⟩
    · show m - (i+1) < m - i;omega
    · exact ⟨rfl,rfl,rfl,rfl,rfl,rfl,rfl,trivial⟩
    · (try simp only [List.cons_append,List.nil_append]);exact Tf
   refine qG (qC (.q 0 (.q 1 (.q 2 (.q 3 (.q 4 (.q 5 (.q 6 ((.l 7 [] (.q 8 (.done))))))))))) Kr ?_)
   refine qK rfl rfl rfl rfl (qK rfl rfl rfl rfl (qK rfl rfl rfl rfl (qK rfl rfl rfl rfl (rC (sz:=4) (k:=i) rfl rfl rfl rfl rfl υ'64 ζ'71 (hs) hs_ enc5_len (by first | rfl | omega) Om ?_))))
   intro ib103 io103 _ hd103
   refine q_loadN (vs:=[_,_,_,_,_]) rfl rfl rfl rfl Try.isAgg71 ζ'71 Tk (hd103) rfl ?_
   refine qK rfl rfl rfl rfl ?_
   have sp_6:=asks_spec dpa dpc dpo dpoc b upa upc q b87 M Bk (2*i) x hx Om hBk Om pl hxp s_.1 s_.2.1 s_.2.2.1 s_.2.2.2.1 s_.2.2.2.2
   refine qM rfl rfl rfl rfl rfl rfl Try.call24 (sp_6) Ts ?_
   rintro ⟨Mz,Bz⟩ ⟨hMz,hBz⟩
   try dsimp only at hMz hBz ⊢
   try simp only [List.cons_append,List.nil_append]
   refine qV (rL rfl rfl rfl rfl ?_)
   refine kH 107 rfl (v':=.bool false) rfl ?_
   refine qS (qW [1,6,8,11,12,13,14,107] (e':=[(1,_),(6,_),(8,_),(11,_),(12,_),(13,_),(14,_),(107,_)]) rfl ?_)
   refine qQ (kB rfl ?_)
   refine qF (kK (kK (qQ (qC (.q 0 (.q 1 (.q 2 (.done)))) Kr ?_))))
   refine qK rfl rfl rfl rfl (qN rfl rfl rfl rfl rfl (cV _ (by exact kG Om Om)) ?_)
   refine qR rfl rfl rfl rfl (qS (qQ (oth_more (M:=M) (M':=Mz) (o:=o) hMz Tk ?_)))
   refine cQ (x:=(i,b,q,x,M,Bk,o)) ((i+1,b,q,(askF x s_.1 s_.2.2.1 s_.2.2.2.1 s_.2.2.2.2),Mz,Bz,o)) ?_ ?_ ?_ ?_
   · try dsimp only
     have hq9:=ask_n x s_.1 s_.2.2.1 s_.2.2.2.1 s_.2.2.2.2
     exact ⟨by omega,ask_inv hx _ _ _ _,by have:=hq9.1;omega,hq9.2.trans hxp,bok_more hBz Om,fun z hz=>⟨(ho z hz).1,by have:=(ho z hz).2.1;omega,(ho z hz).2.2⟩⟩
   · show m - (i+1) < m - i;omega
   · exact ⟨rfl,rfl,rfl,rfl,rfl,rfl,rfl,trivial⟩
   · (try simp only [List.cons_append,List.nil_append]);exact Tf
  refine cM (qZ (qZ (kV (qQ (qG (qC (.q 0 ((.l 1 [] (.q 2 (.q 3 (.q 4 ((.l 5 [] (.q 6 (.q 7 (.q 8 (.q 9 ((.l 10 [] (.q 11 (.q 12 ((.l 13 [] (.q 14 (.q 15 (.done))))))))))))))))))))) Kr ?_))))))
  refine qK rfl rfl rfl rfl ?_
  have sp_7:=apart_spec b87 (2*i) Bk hBk Om
  refine qM rfl rfl rfl rfl rfl rfl Try.call25 (sp_7) Ts ?_
  rintro ⟨⟩ -
  try simp only [List.cons_append,List.nil_append]
  refine qV (qK rfl rfl rfl rfl (qK rfl rfl rfl rfl (qK rfl rfl rfl rfl ?_)))
  have sp_8:=alike_spec dpa dpc dpo dpoc b upa upc q M x hx
  refine qM rfl rfl rfl rfl rfl rfl κ'15 (sp_8) Ts ?_
  rintro ⟨⟩ -
  try simp only [List.cons_append,List.nil_append]
  refine qV (kZ rfl rfl rfl rfl rfl (qK rfl rfl rfl rfl (qK rfl rfl rfl rfl (qK rfl rfl rfl rfl ?_))))
  have sp_9:=alikeo_spec dpa dpc dpo dpoc upa upc M o (fun z hz=>(ho z hz).1)
  refine qM rfl rfl rfl rfl rfl rfl κ'15 (sp_9) Ts ?_
  rintro ⟨⟩ -
  try simp only [List.cons_append,List.nil_append]
  refine qV (kZ rfl rfl rfl rfl rfl (qK rfl rfl rfl rfl ?_))
  have sp_10:=known_spec
  refine qM rfl rfl rfl rfl rfl rfl κ'11 (sp_10) Ts ?_
  rintro ⟨⟩ -
  try simp only [List.cons_append,List.nil_append]
  refine qV (kZ rfl rfl rfl rfl rfl (qR rfl rfl rfl rfl (qS (qW [4] (e':=[(4,_)]) rfl ?_))))
  refine qQ (qJ (cR rfl rfl (()) (by first | rfl | (first | rfl | (congr 1;done) | (congr 1 <;> first | rfl | omega | (simp;done) | (simp;omega)))) (by trivial) ?_))
  exact Tf
 refine cG rfl rfl rfl rfl (cB (us:=[_]) υ'23 ζ'3 rfl ω'3 rfl rfl rfl) ?_
 intro b19
 refine qH (q:=4) rfl rfl rfl α'23 Tk Az (by rfl) ?_
 refine qH (q:=4) rfl rfl rfl α'23 Tk Az (by rfl) ?_
 refine ag_len rfl rfl rfl υ'23 ?_
 refine qV (kF (fun _ h=>cJ (sz:=1) (enc:=encZ) h) ?_)
 refine sV (sz:=1) (enc:=encZ) (xs:=[]) rfl rfl rfl rfl rfl υ'23 τ'3 rfl rfl rfl (by decide) Tk Tk (by first | rfl | omega | (simp;done) | (simp;omega)) (ys:=pl) (hr) (by rfl) (by first | rfl | omega) (encZ_len) (encZ_one) Om (by show _*8≤_;omega) ?_
 intro ao18 cp18
 try simp only [List.nil_append]
 refine kH 18 rfl (v':=.slice ao18 n cp18) (by first | rfl | (congr 1;done) | (congr 1 <;> first | rfl | omega | (simp;done) | (simp;omega))) ?_
 refine qH (q:=4) rfl rfl rfl α'23 Tk Az (by rfl) ?_
 refine ag_len rfl rfl rfl υ'23 ?_
 refine qV (sV (sz:=1) (enc:=encZ) (xs:=(pl)) rfl rfl rfl rfl rfl υ'23 τ'3 rfl rfl rfl (by decide) Tk Tk (by first | rfl | omega | (simp;done) | (simp;omega)) (ys:=[(-71)]) (sW sC) (by rfl) (by first | rfl | omega) (encZ_len) (encZ_one) Om (by show _*8≤_;omega) ?_)
 intro ao20 cp20
 refine qH (q:=4) rfl rfl rfl α'23 Tk Az (by rfl) ?_
 refine ag_len rfl rfl rfl υ'23 ?_
 refine qV (cK (A:=own 1 encZ ao20 cp20 (pl++[(-71)])) Tk ?_)
 refine rQ fun wt1 wt2 wt3=>?_
 have hwt1:=wt1
 simp only [List.length_append,List.length_singleton] at hwt1
 refine q_cut_hi (h':=n) rfl rfl rfl rfl rfl υ'23 ζ'3 (by first | rfl | omega) Om ?_
 refine cK (A:=own 1 encZ ao20 cp20 ((pl)++([(-71)]))) Tk ?_
 refine rQ fun f_11a f_11b f_11c=>?_
 refine qL (k:=4) rfl rfl rfl rfl υ'25 rfl ζ'23 rfl ?_
 refine kR (j:=4) rfl rfl rfl rfl ζ'23 (us:=[_]) rfl rfl rfl Tk Az (by first | decide | (simp;done) | omega) ?_
 simp only [setL,List.set]
 refine qV (qS (qW [1,2,5] (e':=[(1,_),(2,_),(5,_)]) rfl ?_))
 refine qQ (qG (qC (.q 0 ((.l 1 [] (.q 2 (.q 3 (.q 4 (.q 5 (.q 6 (.done))))))))) Kr ?_))
 refine kN rfl rfl rfl rfl α'25 ζ'25 Tk 0 (us:=[_,_,_,_,_]) Az rfl rfl ?_
 have sp_12:=Fa.new_spec th va vo lk pl ao20 n cp20 (own 1 encZ ao20 cp20 (pl++[(-71)])) ((own_front encZ_len wt2 wt3)) Ln Om hok
 refine qM rfl rfl rfl rfl rfl rfl κ'9 (sp_12) Ts ?_
 rintro ⟨d,⟨dpa,dpc⟩,dpo,dpoc⟩ -
 try simp only [List.cons_append,List.nil_append]
 refine qV (qK rfl rfl rfl rfl (kW rfl rfl rfl rfl rfl (kW rfl rfl rfl rfl rfl (qR rfl rfl rfl rfl (qR rfl rfl rfl rfl (qS (qW [1,2,5,6,7] (e':=[(1,_),(2,_),(5,_),(6,_),(7,_)]) rfl ?_)))))))
 refine qQ (qG (sH (f:=owA 1 encU) ?_))
 refine qC (.q 0 ((.l 1 [] (.q 2 (.q 3 (.q 4 (.q 5 (.q 6 (.done))))))))) Kr ?_
 refine kN rfl rfl rfl rfl α'25 ζ'25 Tk 0 (us:=[_,_,_,_,_]) Az rfl rfl ?_
 have sp_13:=Fr.rnew_spec th va vo lk pl ao n c A (hr)  Ln Om [] hok
 refine qM rfl rfl rfl rfl rfl rfl κ'10 (sp_13) Ts ?_
 rintro ⟨u,⟨upa,upc⟩,uH⟩ huH
 try simp only [List.cons_append,List.nil_append]
 refine qV (qK rfl rfl rfl rfl (kW rfl rfl rfl rfl rfl (kW rfl rfl rfl rfl rfl (qR rfl rfl rfl rfl (qR rfl rfl rfl rfl (qS (qW [1,2,5,6,7,8,9] (e':=[(1,_),(2,_),(5,_),(6,_),(7,_),(8,_),(9,_)]) rfl ?_)))))))
 refine qQ (qG (qG (cK (A:=own 1 encZ ao20 cp20 (pl++[(-71)])) Tk ?_)))
 refine rQ fun wu1 wu2 wu3=>?_
 have hwu1:=wu1
 simp only [List.length_append,List.length_singleton] at hwu1
 have hm71:(pl++[(-71)])[n]?=some (-71):=by rw [← hn];exact app_at _ _
 refine kX rfl (.q 0 (.q 1 (.q 2 (.q 3 (.q 4 (.q 5 (.q 6 (.q 7 (.q 8 (.q 9 (.q 10 (.q 11 (.q 12 (.q 13 (.q 14 (.q 15 (.q 16 (.q 17 (.q 18 (.q 19 (.q 20 (.q 21 (.q 22 (.q 23 (.q 24 (.done)))))))))))))))))))))))))) Kr ?_
 refine qK rfl rfl rfl rfl (qK rfl rfl rfl rfl (qN rfl rfl rfl rfl rfl (b_neq _ _ _ _) ?_))
 refine kH 38 rfl (v':=.bool false) (by first | rfl | simp) ?_
 refine qK rfl rfl rfl rfl (qK rfl rfl rfl rfl (cY rfl rfl rfl rfl υ'27 ?_))
 refine kH 41 rfl (v':=.bool false) rfl ?_
 refine qK rfl rfl rfl rfl (cY rfl rfl rfl rfl υ'31 ?_)
 refine kH 43 rfl (v':=.bool false) rfl ?_
 refine q_neb rfl rfl rfl rfl rfl υ'4 ?_
 refine kH 44 rfl (v':=.bool false) rfl ?_
 refine kC rfl rfl rfl rfl rfl (qK rfl rfl rfl rfl (qL (k:=4) rfl rfl rfl rfl υ'25 rfl ζ'23 rfl ?_))
 refine qP (j:=4) rfl rfl rfl rfl α'23 Tk Az (by rfl) ?_
 refine qL (k:=4) rfl rfl rfl rfl υ'25 rfl ζ'23 rfl ?_
 refine qP (j:=4) rfl rfl rfl rfl α'23 Tk Az (by rfl) ?_
 refine cH rfl rfl rfl rfl υ'23 ?_
 refine qN rfl rfl rfl rfl rfl (cV _ (by exact kG Om Om)) ?_
 refine q_cut_hi (h':=n+1) rfl rfl rfl rfl rfl υ'23 ζ'3 (by first | rfl | omega) Om ?_
 refine qL (k:=4) rfl rfl rfl rfl υ'25 rfl ζ'23 rfl ?_
 refine qP (j:=4) rfl rfl rfl rfl α'23 Tk Az (by rfl) ?_
 refine cH rfl rfl rfl rfl υ'23 ?_
 refine kY (sz:=0) (k:=n) (enc:=encZ) (xs:=(pl++[(-71)])) rfl rfl rfl rfl rfl υ'23 ζ'3 hm71 (by first | rfl | omega) Om Tk ?_
 intro ib57 io57 ha57 hl57 hc57
 refine kQ (v:=(.int .i64 (-71))) (j:=0) (k':=n) (enc:=encZ) (off:=io57) rfl rfl rfl rfl α'3 ha57 encZ_len hm71 Tk (by first | rfl | exact (Nat.add_zero _).symm | omega) (by rfl) ?_
 refine qN rfl rfl rfl rfl rfl (b_neq _ _ _ _) ?_
 refine kH 59 rfl (v':=.bool false) (by first | rfl | simp) ?_
 refine kC rfl rfl rfl rfl rfl (qS (qW [1,2,5,6,8,60] (e':=[(1,_),(2,_),(5,_),(6,_),(8,_),(60,_)]) rfl ?_))
 refine qQ (kB rfl ?_)
 refine qF (qQ (qG (qG (qC (.q 0 (.done)) Kr ?_))))
 refine qR rfl rfl rfl rfl (qS (qQ (kS ?_)))
 refine cD (α:=Nat × List Int) (fun (x_:Nat × List Int)=>match x_ with | (z,f)=>z≤n∧(f.length=n+1)∧(∀ j:Nat,z≤j→j < n→f[j]?=pl[j]?)) (fun (x_:Nat × List Int)=>match x_ with | (z,f)=>[(10,.int .i64 ((z:Nat):Int))]) (fun (x_:Nat × List Int)=>match x_ with | (z,f)=>[cells b5 0 [.int .i64 th,.int .i64 va,.int .i64 vo,.int .i64 lk,.slice ao20 n cp20],own 1 encZ ao20 cp20 f]) (fun (x_:Nat × List Int)=>match x_ with | (z,f)=>n - z) [1,2,5,6,8] (er:=[(1,_),(2,_),(5,_),(6,_),(8,_)]) rfl (0,(pl++[(-71)])) ?_ (by exact ⟨rfl,trivial⟩) (by (try dsimp only);(try simp only [Nat.add_zero,Nat.zero_add]);(repeat ((with_reducible apply Z2);focus (first | (with_reducible (repeat (first | exact Z0 | apply Z1));done) | (repeat (first | exact Z0 | apply Z1)))));exact Z3) ?_
 · exact ⟨Nat.zero_le _,by rw [List.length_append,hn];rfl,fun j _ hj=>List.getElem?_append_left Om⟩
 rintro ⟨z,f⟩ ⟨hle_z,hfl,hfq⟩
 try simp only [List.cons_append,List.nil_append]
 refine qG (qG (qC (.q 0 (.q 1 (.q 2 (.q 3 (.q 4 (.done)))))) Kr ?_))
 refine qK rfl rfl rfl rfl (qL (k:=4) rfl rfl rfl rfl υ'25 rfl ζ'23 rfl ?_)
 refine qP (j:=4) rfl rfl rfl rfl α'23 Tk Az (by rfl) ?_
 refine cH rfl rfl rfl rfl υ'23 ?_
 refine qN rfl rfl rfl rfl rfl (sK _ _ _ _) ?_
 refine qS (qW [1,2,5,6,8,10,65] (e':=[(1,_),(2,_),(5,_),(6,_),(8,_),(10,_),(65,_)]) rfl ?_)
 refine qQ ?_
 refine qB rfl (fun hlt=>?_) (fun hlt=>?_)
 ·
  refine qF (qQ (qG (kS (qG (qG ?_)))))
  obtain ⟨p,hp⟩:=cP (l:=pl) (i:=z) Om
  have hpf:f[z]?=some p:=(hfq z (Nat.le_refl _) Om).trans hp
  refine kX rfl (.q 0 (.q 1 (.q 2 (.q 3 (.q 4 (.q 5 (.q 6 (.q 7 (.q 8 (.q 9 (.q 10 (.done)))))))))))) Kr ?_
  refine qL (k:=4) rfl rfl rfl rfl υ'25 rfl ζ'23 rfl ?_
  refine qP (j:=4) rfl rfl rfl rfl α'23 Tk Az (by rfl) ?_
  refine qK rfl rfl rfl rfl (kY (sz:=0) (k:=z) (enc:=encZ) (xs:=f) rfl rfl rfl rfl rfl υ'23 ζ'3 hpf (by first | rfl | omega) Om Tk ?_)
  intro ib71 io71 ha71 hl71 hc71
  refine kQ (v:=(.int .i64 p)) (j:=0) (k':=z) (enc:=encZ) (off:=io71) rfl rfl rfl rfl α'3 ha71 encZ_len hpf Tk (by first | rfl | exact (Nat.add_zero _).symm | omega) (by rfl) ?_
  refine qL (k:=4) rfl rfl rfl rfl υ'25 rfl ζ'23 rfl ?_
  refine qP (j:=4) rfl rfl rfl rfl α'23 Tk Az (by rfl) ?_
  refine qK rfl rfl rfl rfl (rC (sz:=0) (k:=z) rfl rfl rfl rfl rfl υ'23 ζ'3 (hr) hp encZ_len (by first | rfl | omega) Om ?_)
  intro ib76 io76 _ hd76
  refine q_load rfl rfl rfl rfl α'3 Tk (hd76 0 (.int .i64 p) rfl) ?_
  refine qN rfl rfl rfl rfl rfl (b_neq _ _ _ _) ?_
  refine kH 78 rfl (v':=.bool false) (by first | rfl | simp) ?_
  refine qS (qW [1,2,5,6,8,10,78] (e':=[(1,_),(2,_),(5,_),(6,_),(8,_),(10,_),(78,_)]) rfl ?_)
  refine qQ (kB rfl ?_)
  refine qF (qQ (qC (.q 0 (.q 1 (.q 2 (.q 3 ((.l 4 [] (.done))))))) Kr ?_))
  refine qL (k:=4) rfl rfl rfl rfl υ'25 rfl ζ'23 rfl ?_
  refine qP (j:=4) rfl rfl rfl rfl α'23 Tk Az (by rfl) ?_
  refine qK rfl rfl rfl rfl (kY (sz:=0) (k:=z) (enc:=encZ) (xs:=f) rfl rfl rfl rfl rfl υ'23 ζ'3 hpf (by first | rfl | omega) Om Tk ?_)
  intro ib82 io82 ha82 hl82 hc82
  refine kJ (j:=0) (k:=z) (q:=77) (enc:=encZ) (off:=io82) rfl rfl rfl rfl ζ'3 (us:=[_]) rfl rfl rfl ha82 encZ_len hpf Tk (by first | rfl | exact (Nat.add_zero _).symm | omega) (by first | decide | exact Nat.le_of_ble_eq_true rfl) (by rfl) ?_
  refine qV (qS (qW [1,2,5,6,8,10] (e':=[(1,_),(2,_),(5,_),(6,_),(8,_),(10,_)]) rfl ?_))
  refine kK (qQ (qC (.q 0 (.q 1 (.q 2 (.done)))) Kr ?_))
  refine qK rfl rfl rfl rfl (qN rfl rfl rfl rfl rfl (cV _ (by exact kG Om Om)) ?_)
  refine qR rfl rfl rfl rfl (qS (qQ ?_))
  refine cQ (x:=(z,f)) ((z+1,f.set z 77)) ?_ ?_ ?_ ?_
  · try dsimp only
    exact ⟨by omega,by rw [List.length_set];exact hfl,fun j h1 h2=>by rw [List.getElem?_set_ne Om];exact hfq j Om h2⟩
  · show n - (z+1) < n - z;omega
  · exact ⟨rfl,rfl,rfl,rfl,rfl,rfl,trivial⟩
  · (try simp only [List.cons_append,List.nil_append]);exact Tf
 refine cM (qZ (qZ (kV (qQ (qG (qG (qC (.q 0 (.q 1 (.done))) Kr ?_)))))))
 refine qK rfl rfl rfl rfl (cY rfl rfl rfl rfl υ'27 ?_)
 refine kH 84 rfl (v':=.bool false) rfl ?_
 refine qS (qW [1,6,8,84] (e':=[(1,_),(6,_),(8,_),(84,_)]) rfl ?_)
 refine qQ (kB rfl ?_)
 refine qF (qQ (qG (qC (.q 0 (.done)) Kr ?_)))
 refine qR rfl rfl rfl rfl (qS (qQ (qG (qC (.q 0 (.done)) Kr ?_))))
 refine qR rfl rfl rfl rfl (qS (qQ (qG (qC (.q 0 ((.l 1 [] (.q 2 (.done))))) Kr ?_))))
 refine cX rfl rfl rfl rfl (vs:=[_,_,_,_,_,_]) (kM υ'69 Try.zeroValue69 (ps:=[(0,1),(1,1),(2,1),(3,1),(4,1),(5,1)]) ⟨rfl,ζ'66,rfl,ζ'66,rfl,ζ'66,rfl,ζ'67,rfl,ζ'67,rfl,ζ'67,trivial⟩ rfl) ?_
 refine sX rfl rfl rfl rfl (us:=[_,_,_,_,_,_]) rfl ?_
 intro b87
 refine qV (qR rfl rfl rfl rfl (qS (kF (fun _ h=>cJ (sz:=1) (enc:=(encH:LstA Int→List Value)) h) ?_)))
 refine kF (fun _ h=>cJ (sz:=1) (enc:=(encH:LstA Int→List Value)) h) ?_
 refine kF (fun _ h=>cJ (sz:=1) (enc:=(encH:LstA T2→List Value)) h) ?_
 refine kF (fun _ h=>cJ (sz:=1) (enc:=(encH:LstA T2→List Value)) h) ?_
 refine sH (f:=owA 1 encU) ?_
 refine sH (f:=owA 1 encU) ?_
 refine sH (f:=owA 2 enc2) ?_
 refine sH (f:=owA 2 enc2) ?_
 refine bk_fold (b:=b87) (C:=[]) (W:=[]) (F:=[]) (G:=[]) (ca:=none) (cc:=0) (wa:=none) (wc:=0) (fa:=none) (fc:=0) (ga:=none) (gc:=0) Ts rfl rfl rfl rfl ?_
 refine qQ (qG (qG ?_))
 have hxn:=(new_finv hok (new_inv hok))
 have hz0:(fNew th va vo lk pl).v.ck.n=0:=rfl
 refine oth_nil (pa:=dpa) (pc:=dpc) (po:=dpo) (poc:=dpoc) (qa:=upa) (qc:=upc) (M:=[]++[uH]) ?_
 refine qC (.q 0 (.done)) Kr ?_
 refine qR rfl rfl rfl rfl (qS (qQ (kS ?_)))
 refine cD (α:=Nat × Nat × Nat × FS × List H × BK × Option (Nat × Nat × FS)) (fun (x_:Nat × Nat × Nat × FS × List H × BK × Option (Nat × Nat × FS))=>match x_ with | (i,b,q,x,M,Bk,o)=>i≤m∧(FInv x)∧(x.v.ck.n≤((2*i:Nat):Int))∧(x.v.ck.pa=pl)∧(BOk (2*i) Bk)∧(∀ z,o=some z→FInv z.2.2∧z.2.2.v.ck.n≤((2*i:Nat):Int)∧z.2.2.v.ck.pa=pl)) (fun (x_:Nat × Nat × Nat × FS × List H × BK × Option (Nat × Nat × FS))=>match x_ with | (i,b,q,x,M,Bk,o)=>[(6,.pointer (some ⟨b,0,none⟩)),(8,.pointer (some ⟨q,0,none⟩)),(11,.pointer (o.map fun z=>(⟨z.1,0,none⟩:Addr))),(12,.pointer (o.map fun z=>(⟨z.2.1,0,none⟩:Addr))),(14,.int .i64 ((i:Nat):Int))]) (fun (x_:Nat × Nat × Nat × FS × List H × BK × Option (Nat × Nat × FS))=>match x_ with | (i,b,q,x,M,Bk,o)=>[dfR dpa dpc dpo dpoc b x,rfR upa upc q M x,bigS (owA 1 encU) M,bookR b87 Bk,oth dpa dpc dpo dpoc upa upc M o,own 1 encZ dpa dpc pl,own 1 encZ dpo dpoc pl,own 1 encZ upa upc pl]) (fun (x_:Nat × Nat × Nat × FS × List H × BK × Option (Nat × Nat × FS))=>match x_ with | (i,b,q,x,M,Bk,o)=>m - i) [1,13] (er:=[(1,_),(13,_)]) rfl (0,d,u,(fNew th va vo lk pl),[]++[uH],⟨[],[],[],[]⟩,none) ?_ (by exact ⟨rfl,rfl,rfl,rfl,rfl,trivial⟩) (by (try dsimp only);(try simp only [Nat.add_zero,Nat.zero_add]);(repeat ((with_reducible apply Z2);focus (first | (with_reducible (repeat (first | exact Z0 | apply Z1));done) | (repeat (first | exact Z0 | apply Z1)))));exact Z3) ?_
 · exact ⟨Nat.zero_le _,hxn,Int.le_refl _,rfl,bok_nil,fun z hz=>by cases hz⟩
 rintro ⟨i,b,q,x,M,Bk,o⟩ ⟨hle_i,hx,hxm,hxp,hBk,ho⟩
 try simp only [List.cons_append,List.nil_append]
 refine qG (qG (qC (.q 0 (.q 1 (.q 2 (.q 3 (.done))))) Kr ?_))
 refine qK rfl rfl rfl rfl (qK rfl rfl rfl rfl (cH rfl rfl rfl rfl υ'64 ?_))
 refine qN rfl rfl rfl rfl rfl (sK _ _ _ _) ?_
 refine qS (qQ ?_)
 refine qB rfl (fun hlt2=>?_) (fun hlt2=>?_)
 ·
  refine qF (qQ (qG (kS (qG (qC (.q 0 (.q 1 (.q 2 (.q 3 (.q 4 (.done)))))) Kr ?_)))))
  refine qK rfl rfl rfl rfl (qK rfl rfl rfl rfl ?_)
  obtain ⟨s_,hs_⟩:=cP (l:=L) (i:=i) (by first | omega | (simp;done) | (simp;omega))
  refine rC (sz:=4) (k:=i) rfl rfl rfl rfl rfl υ'64 ζ'71 (hs) hs_ enc5_len (by first | rfl | omega) Om ?_
  intro ib96 io96 _ hd96
  refine qL (k:=0) rfl rfl rfl rfl υ'71 rfl ζ'3 rfl ?_
  refine q_load rfl rfl rfl rfl α'3 Tk (hd96 0 (.int .i64 s_.1) rfl) ?_
  refine qS (qW [1,6,8,11,12,13,14,98] (e':=[(1,_),(6,_),(8,_),(11,_),(12,_),(13,_),(14,_),(98,_)]) rfl ?_)
  refine qQ (kS (qG (qC (.q 0 (.q 1 (.done))) Kr ?_)))
  refine qN rfl rfl rfl rfl rfl (cS _ _ _ _) ?_
  refine qR rfl rfl rfl rfl (qS (qQ ?_))
  refine qB rfl (fun h7=>?_) (fun h7=>?_)
  ·
   refine qG (qC (.q 0 (.q 1 (.q 2 (.q 3 (.done))))) Kr ?_)
   refine qK rfl rfl rfl rfl (qK rfl rfl rfl rfl (qR rfl rfl rfl rfl (qR rfl rfl rfl rfl (qS (qW [1,11,12,13,14] (e':=[(1,_),(11,_),(12,_),(13,_),(14,_)]) rfl ?_)))))
   refine qQ (qG (qC (.q 0 ((.l 1 [] (.q 2 ((.l 3 [] (.q 4 (.q 5 (.done))))))))) Kr ?_))
   refine qK rfl rfl rfl rfl ?_
   have sp_14:=Fa.copy_spec dpa dpc dpo dpoc b x hx
   refine qM rfl rfl rfl rfl rfl rfl Try.call20 (sp_14) Ts ?_
   rintro nb -
   try simp only [List.cons_append,List.nil_append]
   refine qV (qK rfl rfl rfl rfl ?_)
   have sp_15:=Fr.rcopy_spec upa upc q M x hx Om
   refine qM rfl rfl rfl rfl rfl rfl Try.call23 (sp_15) Ts ?_
   rintro nq -
   try simp only [List.cons_append,List.nil_append]
   refine qV (qR rfl rfl rfl rfl (qR rfl rfl rfl rfl (qS (qW [1,6,8,11,12,13,14] (e':=[(1,_),(6,_),(8,_),(11,_),(12,_),(13,_),(14,_)]) rfl ?_))))
   refine qQ (qG (qC (.q 0 (.q 1 (.done))) Kr ?_))
   refine qK rfl rfl rfl rfl (cY rfl rfl rfl rfl υ'27 ?_)
   refine kH 117 rfl (v':=.bool false) rfl ?_
   refine qS (qQ (kB rfl ?_))
   refine qF (kK (kK (qQ (qC (.q 0 (.q 1 (.q 2 (.done)))) Kr ?_))))
   refine qK rfl rfl rfl rfl (qN rfl rfl rfl rfl rfl (cV _ (by exact kG Om Om)) ?_)
   refine qR rfl rfl rfl rfl (qS (qW [1,6,8,11,12,13,14] (e':=[(1,_),(6,_),(8,_),(11,_),(12,_),(13,_),(14,_)]) rfl ?_))
   refine qQ (oth_fold (b:=b) (q:=q) (y:=x) Ts ?_)
   refine cQ (x:=(i,b,q,x,M,Bk,o)) ((i+1,nb,nq,x,M,Bk,some (b,q,x))) ?_ ?_ ?_ ?_
   · try dsimp only
     exact ⟨by omega,hx,by omega,hxp,bok_more hBk Om,fun z hz=>by cases hz;exact ⟨hx,by show x.v.ck.n≤_;omega,hxp⟩⟩
   · show m - (i+1) < m - i;omega
   · exact ⟨rfl,rfl,rfl,rfl,rfl,rfl,rfl,trivial⟩
   · (try simp only [List.cons_append,List.nil_append]);exact Tf
  refine qG (qC (.q 0 (.q 1 (.done))) Kr ?_)
  refine qN rfl rfl rfl rfl rfl (cS _ _ _ _) ?_
  refine qR rfl rfl rfl rfl (qS (qW [1,6,8,11,12,13,14,118] (e':=[(1,_),(6,_),(8,_),(11,_),(12,_),(13,_),(14,_),(118,_)]) rfl ?_))
  refine qQ ?_
  refine qB rfl (fun h8=>?_) (fun h8=>?_)
  ·
   refine qG (qC (.q 0 (.q 1 (.done))) Kr ?_)
   refine qK rfl rfl rfl rfl (q_ne_nil rfl rfl rfl rfl υ'27 ?_)
   refine qS (qQ ?_)
   refine c_cond rfl (fun hon=>?_) (fun hon=>?_)
   ·
    try simp only [Bool.and_eq_true,Bool.or_eq_true,Bool.not_eq_true',Bool.not_eq_false',Bool.and_eq_false_iff,Bool.or_eq_false_iff,decide_eq_true_eq,decide_eq_false_iff_not] at hon
    obtain ⟨⟨bz,qz,y⟩,rfl⟩:∃ z,o=some z:=by
      cases o with
      | none=>exact absurd hon (by simp)
      | some z=>exact ⟨z,rfl⟩
    refine cK (A:=oth dpa dpc dpo dpoc upa upc M (some (bz,qz,y))) Tk ?_
    refine oth_open ?_
    obtain ⟨hy1,hy2,hy3⟩:=ho _ rfl
    simp only at hy1 hy2 hy3
    refine qG (qC (.q 0 (.q 1 (.q 2 (.q 3 (.done))))) Kr ?_)
    refine qK rfl rfl rfl rfl (qK rfl rfl rfl rfl (qR rfl rfl rfl rfl (qR rfl rfl rfl rfl (qS (qW [1,6,8,11,12,13,14] (e':=[(1,_),(6,_),(8,_),(11,_),(12,_),(13,_),(14,_)]) rfl ?_)))))
    refine qQ (qC (.q 0 (.q 1 (.q 2 (.q 3 (.done))))) Kr ?_)
    refine qK rfl rfl rfl rfl (qK rfl rfl rfl rfl (qR rfl rfl rfl rfl (qR rfl rfl rfl rfl (qS (kK (kK (qQ (qC (.q 0 (.q 1 (.q 2 (.done)))) Kr ?_))))))))
    refine qK rfl rfl rfl rfl (qN rfl rfl rfl rfl rfl (cV _ (by exact kG Om Om)) ?_)
    refine qR rfl rfl rfl rfl (qS (qW [1,6,8,11,12,13,14] (e':=[(1,_),(6,_),(8,_),(11,_),(12,_),(13,_),(14,_)]) rfl ?_))
    refine qQ (oth_fold (b:=b) (q:=q) (y:=x) Ts ?_)
    refine cQ (x:=(i,b,q,x,M,Bk,some (bz,qz,y))) ((i+1,bz,qz,y,M,Bk,some (b,q,x))) ?_ ?_ ?_ ?_
    · try dsimp only
      exact ⟨by omega,hy1,by omega,hy3,bok_more hBk Om,fun z hz=>by cases hz;exact ⟨hx,by show x.v.ck.n≤_;omega,hxp⟩⟩
    · show m - (i+1) < m - i;omega
    · exact ⟨rfl,rfl,rfl,rfl,rfl,rfl,rfl,trivial⟩
    · (try simp only [List.cons_append,List.nil_append]);exact Tf
   try simp only [Bool.and_eq_true,Bool.or_eq_true,Bool.not_eq_true',Bool.not_eq_false',Bool.and_eq_false_iff,Bool.or_eq_false_iff,decide_eq_true_eq,decide_eq_false_iff_not] at hon
   refine qF (kK (kK (qQ (qC (.q 0 (.q 1 (.q 2 (.done)))) Kr ?_))))
   refine qK rfl rfl rfl rfl (qN rfl rfl rfl rfl rfl (cV _ (by exact kG Om Om)) ?_)
   refine qR rfl rfl rfl rfl (qS (qW [1,6,8,11,12,13,14] (e':=[(1,_),(6,_),(8,_),(11,_),(12,_),(13,_),(14,_)]) rfl ?_))
   refine qQ ?_
   refine cQ (x:=(i,b,q,x,M,Bk,o)) ((i+1,b,q,x,M,Bk,o)) ?_ ?_ ?_ ?_
   · try dsimp only
     exact ⟨by omega,hx,by omega,hxp,bok_more hBk Om,fun z hz=>⟨(ho z hz).1,by have:=(ho z hz).2.1;omega,(ho z hz).2.2⟩⟩
   · show m - (i+1) < m - i;omega
   · exact ⟨rfl,rfl,rfl,rfl,rfl,rfl,rfl,trivial⟩
   · (try simp only [List.cons_append,List.nil_append]);exact Tf
  refine qG (qC (.q 0 (.q 1 (.q 2 (.q 3 (.q 4 (.q 5 (.q 6 ((.l 7 [] (.q 8 (.done))))))))))) Kr ?_)
  refine qK rfl rfl rfl rfl (qK rfl rfl rfl rfl (qK rfl rfl rfl rfl (qK rfl rfl rfl rfl (rC (sz:=4) (k:=i) rfl rfl rfl rfl rfl υ'64 ζ'71 (hs) hs_ enc5_len (by first | rfl | omega) Om ?_))))
  intro ib103 io103 _ hd103
  refine q_loadN (vs:=[_,_,_,_,_]) rfl rfl rfl rfl Try.isAgg71 ζ'71 Tk (hd103) rfl ?_
  refine qK rfl rfl rfl rfl ?_
  have sp_16:=asks_spec dpa dpc dpo dpoc b upa upc q b87 M Bk (2*i) x hx Om hBk Om pl hxp s_.1 s_.2.1 s_.2.2.1 s_.2.2.2.1 s_.2.2.2.2
  refine qM rfl rfl rfl rfl rfl rfl Try.call24 (sp_16) Ts ?_
  rintro ⟨Mz,Bz⟩ ⟨hMz,hBz⟩
  try dsimp only at hMz hBz ⊢
  try simp only [List.cons_append,List.nil_append]
  refine qV (rL rfl rfl rfl rfl ?_)
  refine kH 107 rfl (v':=.bool false) rfl ?_
  refine qS (qW [1,6,8,11,12,13,14,107] (e':=[(1,_),(6,_),(8,_),(11,_),(12,_),(13,_),(14,_),(107,_)]) rfl ?_)
  refine qQ (kB rfl ?_)
  refine qF (kK (kK (qQ (qC (.q 0 (.q 1 (.q 2 (.done)))) Kr ?_))))
  refine qK rfl rfl rfl rfl (qN rfl rfl rfl rfl rfl (cV _ (by exact kG Om Om)) ?_)
  refine qR rfl rfl rfl rfl (qS (qQ (oth_more (M:=M) (M':=Mz) (o:=o) hMz Tk ?_)))
  refine cQ (x:=(i,b,q,x,M,Bk,o)) ((i+1,b,q,(askF x s_.1 s_.2.2.1 s_.2.2.2.1 s_.2.2.2.2),Mz,Bz,o)) ?_ ?_ ?_ ?_
  · try dsimp only
    have hq9:=ask_n x s_.1 s_.2.2.1 s_.2.2.2.1 s_.2.2.2.2
    exact ⟨by omega,ask_inv hx _ _ _ _,by have:=hq9.1;omega,hq9.2.trans hxp,bok_more hBz Om,fun z hz=>⟨(ho z hz).1,by have:=(ho z hz).2.1;omega,(ho z hz).2.2⟩⟩
  · show m - (i+1) < m - i;omega
  · exact ⟨rfl,rfl,rfl,rfl,rfl,rfl,rfl,trivial⟩
  · (try simp only [List.cons_append,List.nil_append]);exact Tf
 refine cM (qZ (qZ (kV (qQ (qG (qC (.q 0 ((.l 1 [] (.q 2 (.q 3 (.q 4 ((.l 5 [] (.q 6 (.q 7 (.q 8 (.q 9 ((.l 10 [] (.q 11 (.q 12 ((.l 13 [] (.q 14 (.q 15 (.done))))))))))))))))))))) Kr ?_))))))
 refine qK rfl rfl rfl rfl ?_
 have sp_17:=apart_spec b87 (2*i) Bk hBk Om
 refine qM rfl rfl rfl rfl rfl rfl Try.call25 (sp_17) Ts ?_
 rintro ⟨⟩ -
 try simp only [List.cons_append,List.nil_append]
 refine qV (qK rfl rfl rfl rfl (qK rfl rfl rfl rfl (qK rfl rfl rfl rfl ?_)))
 have sp_18:=alike_spec dpa dpc dpo dpoc b upa upc q M x hx
 refine qM rfl rfl rfl rfl rfl rfl κ'15 (sp_18) Ts ?_
 rintro ⟨⟩ -
 try simp only [List.cons_append,List.nil_append]
 refine qV (kZ rfl rfl rfl rfl rfl (qK rfl rfl rfl rfl (qK rfl rfl rfl rfl (qK rfl rfl rfl rfl ?_))))
 have sp_19:=alikeo_spec dpa dpc dpo dpoc upa upc M o (fun z hz=>(ho z hz).1)
 refine qM rfl rfl rfl rfl rfl rfl κ'15 (sp_19) Ts ?_
 rintro ⟨⟩ -
 try simp only [List.cons_append,List.nil_append]
 refine qV (kZ rfl rfl rfl rfl rfl (qK rfl rfl rfl rfl ?_))
 have sp_20:=known_spec
 refine qM rfl rfl rfl rfl rfl rfl κ'11 (sp_20) Ts ?_
 rintro ⟨⟩ -
 try simp only [List.cons_append,List.nil_append]
 refine qV (kZ rfl rfl rfl rfl rfl (qR rfl rfl rfl rfl (qS (qW [4] (e':=[(4,_)]) rfl ?_))))
 refine qQ (qJ (cR rfl rfl (()) (by first | rfl | (first | rfl | (congr 1;done) | (congr 1 <;> first | rfl | omega | (simp;done) | (simp;omega)))) (by trivial) ?_))
 exact Tf
theorem plays_bad (th va vo lk:Int) (pl:List Int) (ao:Option Addr) (n c:Nat) (A:HProp) (hr:RdS A ao (pl.flatMap encZ)) (hn:pl.length=n) (hb:n≤4000000) (L:List T5) (so:Option Addr) (m sc:Nat) (hs:RdS A so (L.flatMap enc5)) (hm:L.length=m) (hmb:m≤1900000) (hok:¬ OkS th va vo lk pl):Spec Try.prog 7 [.agg #[.int .i64 th,.int .i64 va,.int .i64 vo,.int .i64 lk,.slice ao n c],.slice so m sc] [A] (fun (_:Unit)=>.bool true) (fun _=>True) (fun _=>[A]):=by
 refine kP (n:=141) Try.func7 rfl rfl rfl ?_
 intro Γ w0
 simp only [argE,List.cons_append,List.nil_append,Nat.zero_add,Nat.reduceAdd]
 refine qG (qC ((.l 0 [] (.q 1 (.done)))) Kr ?_)
 refine sX rfl rfl rfl rfl (us:=[_,_,_,_,_]) rfl ?_
 intro b2
 refine qV (qR rfl rfl rfl rfl (qS (qQ (qG (qC (.q 0 ((.l 1 [] ((.l 2 [] (.done)))))) Kr ?_)))))
 refine kN rfl rfl rfl rfl α'25 ζ'25 Tk 0 (us:=[_,_,_,_,_]) Az rfl rfl ?_
 refine cF rfl rfl rfl Try.zeroValue25 (zs:=[.int .i64 0,.int .i64 0,.int .i64 0,.int .i64 0,.slice none 0 0]) rfl ?_
 intro b5
 refine qV (kR (j:=0) rfl rfl rfl rfl ζ'25 (us:=[_,_,_,_,_]) rfl rfl rfl Tk Az (by first | decide | (simp;done) | omega) ?_)
 simp only [setL,List.set]
 refine qV (qS (qQ (qG (kX rfl (.q 0 (.q 1 (.q 5 (.q 6 (.q 7 ((.alt (.l 2 [6,7] ((.l 3 [6,7] ((.l 4 [6,7] (.q 8 (.q 9 ((.l 10 [] (.done)))))))))) (.l 3 [1,6,7] ((.l 2 [6,7] ((.l 4 [6,7] (.q 8 (.q 9 ((.l 10 [] (.done))))))))))))))))) Kr ?_))))
 refine qL (k:=4) rfl rfl rfl rfl υ'25 rfl ζ'23 rfl ?_
 refine qP (j:=4) rfl rfl rfl rfl α'23 Tk Az (by rfl) ?_
 refine qL (k:=4) rfl rfl rfl rfl υ'25 rfl ζ'23 rfl ?_
 refine qP (j:=4) rfl rfl rfl rfl α'23 Tk Az (by rfl) ?_
 refine cH rfl rfl rfl rfl υ'23 ?_
 refine r_alt ?_ ?_
 ·
  refine kF (fun _ h=>cJ (sz:=1) (enc:=encZ) h) ?_
  refine sV (sz:=1) (enc:=encZ) (xs:=[]) rfl rfl rfl rfl rfl υ'23 τ'3 rfl rfl rfl (by decide) Tk Tk (by first | rfl | omega | (simp;done) | (simp;omega)) (ys:=pl) (hr) (by rfl) (by first | rfl | omega) (encZ_len) (encZ_one) Om (by show _*8≤_;omega) ?_
  intro ao18 cp18
  try simp only [List.nil_append]
  refine kH 18 rfl (v':=.slice ao18 n cp18) (by first | rfl | (congr 1;done) | (congr 1 <;> first | rfl | omega | (simp;done) | (simp;omega))) ?_
  refine qH (q:=4) rfl rfl rfl α'23 Tk Az (by rfl) ?_
  refine ag_len rfl rfl rfl υ'23 ?_
  refine qV (cG rfl rfl rfl rfl (cB (us:=[_]) υ'23 ζ'3 rfl ω'3 rfl rfl rfl) ?_)
  intro b19
  refine qH (q:=4) rfl rfl rfl α'23 Tk Az (by rfl) ?_
  refine ag_len rfl rfl rfl υ'23 ?_
  refine qV (sV (sz:=1) (enc:=encZ) (xs:=(pl)) rfl rfl rfl rfl rfl υ'23 τ'3 rfl rfl rfl (by decide) Tk Tk (by first | rfl | omega | (simp;done) | (simp;omega)) (ys:=[(-71)]) (sW sC) (by rfl) (by first | rfl | omega) (encZ_len) (encZ_one) Om (by show _*8≤_;omega) ?_)
  intro ao20 cp20
  refine qH (q:=4) rfl rfl rfl α'23 Tk Az (by rfl) ?_
  refine ag_len rfl rfl rfl υ'23 ?_
  refine qV (cK (A:=own 1 encZ ao20 cp20 (pl++[(-71)])) Tk ?_)
  refine rQ fun wt1 wt2 wt3=>?_
  have hwt1:=wt1
  simp only [List.length_append,List.length_singleton] at hwt1
  refine q_cut_hi (h':=n) rfl rfl rfl rfl rfl υ'23 ζ'3 (by first | rfl | omega) Om ?_
  refine cK (A:=own 1 encZ ao20 cp20 ((pl)++([(-71)]))) Tk ?_
  refine rQ fun f_1a f_1b f_1c=>?_
  refine qL (k:=4) rfl rfl rfl rfl υ'25 rfl ζ'23 rfl ?_
  refine kR (j:=4) rfl rfl rfl rfl ζ'23 (us:=[_]) rfl rfl rfl Tk Az (by first | decide | (simp;done) | omega) ?_
  simp only [setL,List.set]
  refine qV (qS (qW [1,2,5] (e':=[(1,_),(2,_),(5,_)]) rfl ?_))
  refine qQ (qG (qC (.q 0 ((.l 1 [] (.q 2 (.q 3 (.q 4 (.q 5 (.q 6 (.done))))))))) Kr ?_))
  refine kN rfl rfl rfl rfl α'25 ζ'25 Tk 0 (us:=[_,_,_,_,_]) Az rfl rfl ?_
  have sp_2:=Fa.newbad_spec th va vo lk pl ao20 n cp20 (own 1 encZ ao20 cp20 (pl++[(-71)])) ((own_front encZ_len wt2 wt3)) Ln Om hok
  refine qM rfl rfl rfl rfl rfl rfl κ'9 (sp_2) Ts ?_
  rintro ⟨⟩ -
  try simp only [List.cons_append,List.nil_append]
  refine qV (qK rfl rfl rfl rfl (kW rfl rfl rfl rfl rfl (kW rfl rfl rfl rfl rfl (qR rfl rfl rfl rfl (qR rfl rfl rfl rfl (qS (qW [1,2,5,6,7] (e':=[(1,_),(2,_),(5,_),(6,_),(7,_)]) rfl ?_)))))))
  refine qQ (qG (qC (.q 0 ((.l 1 [] (.q 2 (.q 3 (.q 4 (.q 5 (.q 6 (.done))))))))) Kr ?_))
  refine kN rfl rfl rfl rfl α'25 ζ'25 Tk 0 (us:=[_,_,_,_,_]) Az rfl rfl ?_
  have sp_3:=Fr.rnewbad_spec th va vo lk pl ao n c A (hr)  Ln Om hok
  refine qM rfl rfl rfl rfl rfl rfl κ'10 (sp_3) Ts ?_
  rintro ⟨⟩ -
  try simp only [List.cons_append,List.nil_append]
  refine qV (qK rfl rfl rfl rfl (kW rfl rfl rfl rfl rfl (kW rfl rfl rfl rfl rfl (qR rfl rfl rfl rfl (qR rfl rfl rfl rfl (qS (qW [1,2,5,6,7,8,9] (e':=[(1,_),(2,_),(5,_),(6,_),(7,_),(8,_),(9,_)]) rfl ?_)))))))
  refine qQ (qG (qG (cK (A:=own 1 encZ ao20 cp20 (pl++[(-71)])) Tk ?_)))
  refine rQ fun wu1 wu2 wu3=>?_
  have hwu1:=wu1
  simp only [List.length_append,List.length_singleton] at hwu1
  have hm71:(pl++[(-71)])[n]?=some (-71):=by rw [← hn];exact app_at _ _
  refine kX rfl (.q 0 (.q 1 (.q 2 (.q 3 (.q 4 (.q 5 (.q 6 (.q 7 (.q 8 (.q 9 (.q 10 (.q 11 (.q 12 (.q 13 (.q 14 (.q 15 (.q 16 (.q 17 (.q 18 (.q 19 (.q 20 (.q 21 (.q 22 (.q 23 (.q 24 (.done)))))))))))))))))))))))))) Kr ?_
  refine qK rfl rfl rfl rfl (qK rfl rfl rfl rfl (qN rfl rfl rfl rfl rfl (b_neq _ _ _ _) ?_))
  refine kH 38 rfl (v':=.bool false) (by first | rfl | simp) ?_
  refine qK rfl rfl rfl rfl (qK rfl rfl rfl rfl (cY rfl rfl rfl rfl υ'27 ?_))
  refine kH 41 rfl (v':=.bool true) rfl ?_
  refine qK rfl rfl rfl rfl (cY rfl rfl rfl rfl υ'31 ?_)
  refine kH 43 rfl (v':=.bool true) rfl ?_
  refine q_neb rfl rfl rfl rfl rfl υ'4 ?_
  refine kH 44 rfl (v':=.bool false) rfl ?_
  refine kC rfl rfl rfl rfl rfl (qK rfl rfl rfl rfl (qL (k:=4) rfl rfl rfl rfl υ'25 rfl ζ'23 rfl ?_))
  refine qP (j:=4) rfl rfl rfl rfl α'23 Tk Az (by rfl) ?_
  refine qL (k:=4) rfl rfl rfl rfl υ'25 rfl ζ'23 rfl ?_
  refine qP (j:=4) rfl rfl rfl rfl α'23 Tk Az (by rfl) ?_
  refine cH rfl rfl rfl rfl υ'23 ?_
  refine qN rfl rfl rfl rfl rfl (cV _ (by exact kG Om Om)) ?_
  refine q_cut_hi (h':=n+1) rfl rfl rfl rfl rfl υ'23 ζ'3 (by first | rfl | omega) Om ?_
  refine qL (k:=4) rfl rfl rfl rfl υ'25 rfl ζ'23 rfl ?_
  refine qP (j:=4) rfl rfl rfl rfl α'23 Tk Az (by rfl) ?_
  refine cH rfl rfl rfl rfl υ'23 ?_
  refine kY (sz:=0) (k:=n) (enc:=encZ) (xs:=(pl++[(-71)])) rfl rfl rfl rfl rfl υ'23 ζ'3 hm71 (by first | rfl | omega) Om Tk ?_
  intro ib57 io57 ha57 hl57 hc57
  refine kQ (v:=(.int .i64 (-71))) (j:=0) (k':=n) (enc:=encZ) (off:=io57) rfl rfl rfl rfl α'3 ha57 encZ_len hm71 Tk (by first | rfl | exact (Nat.add_zero _).symm | omega) (by rfl) ?_
  refine qN rfl rfl rfl rfl rfl (b_neq _ _ _ _) ?_
  refine kH 59 rfl (v':=.bool false) (by first | rfl | simp) ?_
  refine kC rfl rfl rfl rfl rfl (qS (qW [1,2,5,6,8,60] (e':=[(1,_),(2,_),(5,_),(6,_),(8,_),(60,_)]) rfl ?_))
  refine qQ (kB rfl ?_)
  refine qF (qQ (qG (qG (qC (.q 0 (.done)) Kr ?_))))
  refine qR rfl rfl rfl rfl (qS (qQ (kS ?_)))
  refine cD (α:=Nat × List Int) (fun (x_:Nat × List Int)=>match x_ with | (z,f)=>z≤n∧(f.length=n+1)∧(∀ j:Nat,z≤j→j < n→f[j]?=pl[j]?)) (fun (x_:Nat × List Int)=>match x_ with | (z,f)=>[(10,.int .i64 ((z:Nat):Int))]) (fun (x_:Nat × List Int)=>match x_ with | (z,f)=>[cells b5 0 [.int .i64 th,.int .i64 va,.int .i64 vo,.int .i64 lk,.slice ao20 n cp20],own 1 encZ ao20 cp20 f]) (fun (x_:Nat × List Int)=>match x_ with | (z,f)=>n - z) [1,2,5,6,8] (er:=[(1,_),(2,_),(5,_),(6,_),(8,_)]) rfl (0,(pl++[(-71)])) ?_ (by exact ⟨rfl,trivial⟩) (by (try dsimp only);(try simp only [Nat.add_zero,Nat.zero_add]);(repeat ((with_reducible apply Z2);focus (first | (with_reducible (repeat (first | exact Z0 | apply Z1));done) | (repeat (first | exact Z0 | apply Z1)))));exact Z3) ?_
  · exact ⟨Nat.zero_le _,by rw [List.length_append,hn];rfl,fun j _ hj=>List.getElem?_append_left Om⟩
  rintro ⟨z,f⟩ ⟨hle_z,hfl,hfq⟩
  try simp only [List.cons_append,List.nil_append]
  refine qG (qG (qC (.q 0 (.q 1 (.q 2 (.q 3 (.q 4 (.done)))))) Kr ?_))
  refine qK rfl rfl rfl rfl (qL (k:=4) rfl rfl rfl rfl υ'25 rfl ζ'23 rfl ?_)
  refine qP (j:=4) rfl rfl rfl rfl α'23 Tk Az (by rfl) ?_
  refine cH rfl rfl rfl rfl υ'23 ?_
  refine qN rfl rfl rfl rfl rfl (sK _ _ _ _) ?_
  refine qS (qW [1,2,5,6,8,10,65] (e':=[(1,_),(2,_),(5,_),(6,_),(8,_),(10,_),(65,_)]) rfl ?_)
  refine qQ ?_
  refine qB rfl (fun hlt=>?_) (fun hlt=>?_)
  ·
   refine qF (qQ (qG (kS (qG (qG ?_)))))
   obtain ⟨p,hp⟩:=cP (l:=pl) (i:=z) Om
   have hpf:f[z]?=some p:=(hfq z (Nat.le_refl _) Om).trans hp
   refine kX rfl (.q 0 (.q 1 (.q 2 (.q 3 (.q 4 (.q 5 (.q 6 (.q 7 (.q 8 (.q 9 (.q 10 (.done)))))))))))) Kr ?_
   refine qL (k:=4) rfl rfl rfl rfl υ'25 rfl ζ'23 rfl ?_
   refine qP (j:=4) rfl rfl rfl rfl α'23 Tk Az (by rfl) ?_
   refine qK rfl rfl rfl rfl (kY (sz:=0) (k:=z) (enc:=encZ) (xs:=f) rfl rfl rfl rfl rfl υ'23 ζ'3 hpf (by first | rfl | omega) Om Tk ?_)
   intro ib71 io71 ha71 hl71 hc71
   refine kQ (v:=(.int .i64 p)) (j:=0) (k':=z) (enc:=encZ) (off:=io71) rfl rfl rfl rfl α'3 ha71 encZ_len hpf Tk (by first | rfl | exact (Nat.add_zero _).symm | omega) (by rfl) ?_
   refine qL (k:=4) rfl rfl rfl rfl υ'25 rfl ζ'23 rfl ?_
   refine qP (j:=4) rfl rfl rfl rfl α'23 Tk Az (by rfl) ?_
   refine qK rfl rfl rfl rfl (rC (sz:=0) (k:=z) rfl rfl rfl rfl rfl υ'23 ζ'3 (hr) hp encZ_len (by first | rfl | omega) Om ?_)
   intro ib76 io76 _ hd76
   refine q_load rfl rfl rfl rfl α'3 Tk (hd76 0 (.int .i64 p) rfl) ?_
   refine qN rfl rfl rfl rfl rfl (b_neq _ _ _ _) ?_
   refine kH 78 rfl (v':=.bool false) (by first | rfl | simp) ?_
   refine qS (qW [1,2,5,6,8,10,78] (e':=[(1,_),(2,_),(5,_),(6,_),(8,_),(10,_),(78,_)]) rfl ?_)
   refine qQ (kB rfl ?_)
   refine qF (qQ (qC (.q 0 (.q 1 (.q 2 (.q 3 ((.l 4 [] (.done))))))) Kr ?_))
   refine qL (k:=4) rfl rfl rfl rfl υ'25 rfl ζ'23 rfl ?_
   refine qP (j:=4) rfl rfl rfl rfl α'23 Tk Az (by rfl) ?_
   refine qK rfl rfl rfl rfl (kY (sz:=0) (k:=z) (enc:=encZ) (xs:=f) rfl rfl rfl rfl rfl υ'23 ζ'3 hpf (by first | rfl | omega) Om Tk ?_)
   intro ib82 io82 ha82 hl82 hc82
   refine kJ (j:=0) (k:=z) (q:=77) (enc:=encZ) (off:=io82) rfl rfl rfl rfl ζ'3 (us:=[_]) rfl rfl rfl ha82 encZ_len hpf Tk (by first | rfl | exact (Nat.add_zero _).symm | omega) (by first | decide | exact Nat.le_of_ble_eq_true rfl) (by rfl) ?_
   refine qV (qS (qW [1,2,5,6,8,10] (e':=[(1,_),(2,_),(5,_),(6,_),(8,_),(10,_)]) rfl ?_))
   refine kK (qQ (qC (.q 0 (.q 1 (.q 2 (.done)))) Kr ?_))
   refine qK rfl rfl rfl rfl (qN rfl rfl rfl rfl rfl (cV _ (by exact kG Om Om)) ?_)
   refine qR rfl rfl rfl rfl (qS (qQ ?_))
   refine cQ (x:=(z,f)) ((z+1,f.set z 77)) ?_ ?_ ?_ ?_
   · try dsimp only
     exact ⟨by omega,by rw [List.length_set];exact hfl,fun j h1 h2=>by rw [List.getElem?_set_ne Om];exact hfq j Om h2⟩
   · show n - (z+1) < n - z;omega
   · exact ⟨rfl,rfl,rfl,rfl,rfl,rfl,trivial⟩
   · (try simp only [List.cons_append,List.nil_append]);exact Tf
  refine cM (qZ (qZ (kV (qQ (qG (qG (qC (.q 0 (.q 1 (.done))) Kr ?_)))))))
  refine qK rfl rfl rfl rfl (cY rfl rfl rfl rfl υ'27 ?_)
  refine kH 84 rfl (v':=.bool true) rfl ?_
  refine qS (qW [1,6,8,84] (e':=[(1,_),(6,_),(8,_),(84,_)]) rfl ?_)
  refine qQ (cN rfl ?_)
  refine qG (qC ((.l 0 [] (.q 1 (.done)))) Kr ?_)
  have sp_4:=known_spec
  refine qM rfl rfl rfl rfl rfl rfl κ'11 (sp_4) Ts ?_
  rintro ⟨⟩ -
  try simp only [List.cons_append,List.nil_append]
  refine qV (qR rfl rfl rfl rfl (qS (qW [4] (e':=[(4,_)]) rfl ?_)))
  refine qQ (qJ (qD (cR rfl rfl (()) (by first | rfl | (first | rfl | (congr 1;done) | (congr 1 <;> first | rfl | omega | (simp;done) | (simp;omega)))) (by trivial) ?_)))
  exact Tf
 refine cG rfl rfl rfl rfl (cB (us:=[_]) υ'23 ζ'3 rfl ω'3 rfl rfl rfl) ?_
 intro b19
 refine qH (q:=4) rfl rfl rfl α'23 Tk Az (by rfl) ?_
 refine qH (q:=4) rfl rfl rfl α'23 Tk Az (by rfl) ?_
 refine ag_len rfl rfl rfl υ'23 ?_
 refine qV (kF (fun _ h=>cJ (sz:=1) (enc:=encZ) h) ?_)
 refine sV (sz:=1) (enc:=encZ) (xs:=[]) rfl rfl rfl rfl rfl υ'23 τ'3 rfl rfl rfl (by decide) Tk Tk (by first | rfl | omega | (simp;done) | (simp;omega)) (ys:=pl) (hr) (by rfl) (by first | rfl | omega) (encZ_len) (encZ_one) Om (by show _*8≤_;omega) ?_
 intro ao18 cp18
 try simp only [List.nil_append]
 refine kH 18 rfl (v':=.slice ao18 n cp18) (by first | rfl | (congr 1;done) | (congr 1 <;> first | rfl | omega | (simp;done) | (simp;omega))) ?_
 refine qH (q:=4) rfl rfl rfl α'23 Tk Az (by rfl) ?_
 refine ag_len rfl rfl rfl υ'23 ?_
 refine qV (sV (sz:=1) (enc:=encZ) (xs:=(pl)) rfl rfl rfl rfl rfl υ'23 τ'3 rfl rfl rfl (by decide) Tk Tk (by first | rfl | omega | (simp;done) | (simp;omega)) (ys:=[(-71)]) (sW sC) (by rfl) (by first | rfl | omega) (encZ_len) (encZ_one) Om (by show _*8≤_;omega) ?_)
 intro ao20 cp20
 refine qH (q:=4) rfl rfl rfl α'23 Tk Az (by rfl) ?_
 refine ag_len rfl rfl rfl υ'23 ?_
 refine qV (cK (A:=own 1 encZ ao20 cp20 (pl++[(-71)])) Tk ?_)
 refine rQ fun wt1 wt2 wt3=>?_
 have hwt1:=wt1
 simp only [List.length_append,List.length_singleton] at hwt1
 refine q_cut_hi (h':=n) rfl rfl rfl rfl rfl υ'23 ζ'3 (by first | rfl | omega) Om ?_
 refine cK (A:=own 1 encZ ao20 cp20 ((pl)++([(-71)]))) Tk ?_
 refine rQ fun f_5a f_5b f_5c=>?_
 refine qL (k:=4) rfl rfl rfl rfl υ'25 rfl ζ'23 rfl ?_
 refine kR (j:=4) rfl rfl rfl rfl ζ'23 (us:=[_]) rfl rfl rfl Tk Az (by first | decide | (simp;done) | omega) ?_
 simp only [setL,List.set]
 refine qV (qS (qW [1,2,5] (e':=[(1,_),(2,_),(5,_)]) rfl ?_))
 refine qQ (qG (qC (.q 0 ((.l 1 [] (.q 2 (.q 3 (.q 4 (.q 5 (.q 6 (.done))))))))) Kr ?_))
 refine kN rfl rfl rfl rfl α'25 ζ'25 Tk 0 (us:=[_,_,_,_,_]) Az rfl rfl ?_
 have sp_6:=Fa.newbad_spec th va vo lk pl ao20 n cp20 (own 1 encZ ao20 cp20 (pl++[(-71)])) ((own_front encZ_len wt2 wt3)) Ln Om hok
 refine qM rfl rfl rfl rfl rfl rfl κ'9 (sp_6) Ts ?_
 rintro ⟨⟩ -
 try simp only [List.cons_append,List.nil_append]
 refine qV (qK rfl rfl rfl rfl (kW rfl rfl rfl rfl rfl (kW rfl rfl rfl rfl rfl (qR rfl rfl rfl rfl (qR rfl rfl rfl rfl (qS (qW [1,2,5,6,7] (e':=[(1,_),(2,_),(5,_),(6,_),(7,_)]) rfl ?_)))))))
 refine qQ (qG (qC (.q 0 ((.l 1 [] (.q 2 (.q 3 (.q 4 (.q 5 (.q 6 (.done))))))))) Kr ?_))
 refine kN rfl rfl rfl rfl α'25 ζ'25 Tk 0 (us:=[_,_,_,_,_]) Az rfl rfl ?_
 have sp_7:=Fr.rnewbad_spec th va vo lk pl ao n c A (hr)  Ln Om hok
 refine qM rfl rfl rfl rfl rfl rfl κ'10 (sp_7) Ts ?_
 rintro ⟨⟩ -
 try simp only [List.cons_append,List.nil_append]
 refine qV (qK rfl rfl rfl rfl (kW rfl rfl rfl rfl rfl (kW rfl rfl rfl rfl rfl (qR rfl rfl rfl rfl (qR rfl rfl rfl rfl (qS (qW [1,2,5,6,7,8,9] (e':=[(1,_),(2,_),(5,_),(6,_),(7,_),(8,_),(9,_)]) rfl ?_)))))))
 refine qQ (qG (qG (cK (A:=own 1 encZ ao20 cp20 (pl++[(-71)])) Tk ?_)))
 refine rQ fun wu1 wu2 wu3=>?_
 have hwu1:=wu1
 simp only [List.length_append,List.length_singleton] at hwu1
 have hm71:(pl++[(-71)])[n]?=some (-71):=by rw [← hn];exact app_at _ _
 refine kX rfl (.q 0 (.q 1 (.q 2 (.q 3 (.q 4 (.q 5 (.q 6 (.q 7 (.q 8 (.q 9 (.q 10 (.q 11 (.q 12 (.q 13 (.q 14 (.q 15 (.q 16 (.q 17 (.q 18 (.q 19 (.q 20 (.q 21 (.q 22 (.q 23 (.q 24 (.done)))))))))))))))))))))))))) Kr ?_
 refine qK rfl rfl rfl rfl (qK rfl rfl rfl rfl (qN rfl rfl rfl rfl rfl (b_neq _ _ _ _) ?_))
 refine kH 38 rfl (v':=.bool false) (by first | rfl | simp) ?_
 refine qK rfl rfl rfl rfl (qK rfl rfl rfl rfl (cY rfl rfl rfl rfl υ'27 ?_))
 refine kH 41 rfl (v':=.bool true) rfl ?_
 refine qK rfl rfl rfl rfl (cY rfl rfl rfl rfl υ'31 ?_)
 refine kH 43 rfl (v':=.bool true) rfl ?_
 refine q_neb rfl rfl rfl rfl rfl υ'4 ?_
 refine kH 44 rfl (v':=.bool false) rfl ?_
 refine kC rfl rfl rfl rfl rfl (qK rfl rfl rfl rfl (qL (k:=4) rfl rfl rfl rfl υ'25 rfl ζ'23 rfl ?_))
 refine qP (j:=4) rfl rfl rfl rfl α'23 Tk Az (by rfl) ?_
 refine qL (k:=4) rfl rfl rfl rfl υ'25 rfl ζ'23 rfl ?_
 refine qP (j:=4) rfl rfl rfl rfl α'23 Tk Az (by rfl) ?_
 refine cH rfl rfl rfl rfl υ'23 ?_
 refine qN rfl rfl rfl rfl rfl (cV _ (by exact kG Om Om)) ?_
 refine q_cut_hi (h':=n+1) rfl rfl rfl rfl rfl υ'23 ζ'3 (by first | rfl | omega) Om ?_
 refine qL (k:=4) rfl rfl rfl rfl υ'25 rfl ζ'23 rfl ?_
 refine qP (j:=4) rfl rfl rfl rfl α'23 Tk Az (by rfl) ?_
 refine cH rfl rfl rfl rfl υ'23 ?_
 refine kY (sz:=0) (k:=n) (enc:=encZ) (xs:=(pl++[(-71)])) rfl rfl rfl rfl rfl υ'23 ζ'3 hm71 (by first | rfl | omega) Om Tk ?_
 intro ib57 io57 ha57 hl57 hc57
 refine kQ (v:=(.int .i64 (-71))) (j:=0) (k':=n) (enc:=encZ) (off:=io57) rfl rfl rfl rfl α'3 ha57 encZ_len hm71 Tk (by first | rfl | exact (Nat.add_zero _).symm | omega) (by rfl) ?_
 refine qN rfl rfl rfl rfl rfl (b_neq _ _ _ _) ?_
 refine kH 59 rfl (v':=.bool false) (by first | rfl | simp) ?_
 refine kC rfl rfl rfl rfl rfl (qS (qW [1,2,5,6,8,60] (e':=[(1,_),(2,_),(5,_),(6,_),(8,_),(60,_)]) rfl ?_))
 refine qQ (kB rfl ?_)
 refine qF (qQ (qG (qG (qC (.q 0 (.done)) Kr ?_))))
 refine qR rfl rfl rfl rfl (qS (qQ (kS ?_)))
 refine cD (α:=Nat × List Int) (fun (x_:Nat × List Int)=>match x_ with | (z,f)=>z≤n∧(f.length=n+1)∧(∀ j:Nat,z≤j→j < n→f[j]?=pl[j]?)) (fun (x_:Nat × List Int)=>match x_ with | (z,f)=>[(10,.int .i64 ((z:Nat):Int))]) (fun (x_:Nat × List Int)=>match x_ with | (z,f)=>[cells b5 0 [.int .i64 th,.int .i64 va,.int .i64 vo,.int .i64 lk,.slice ao20 n cp20],own 1 encZ ao20 cp20 f]) (fun (x_:Nat × List Int)=>match x_ with | (z,f)=>n - z) [1,2,5,6,8] (er:=[(1,_),(2,_),(5,_),(6,_),(8,_)]) rfl (0,(pl++[(-71)])) ?_ (by exact ⟨rfl,trivial⟩) (by (try dsimp only);(try simp only [Nat.add_zero,Nat.zero_add]);(repeat ((with_reducible apply Z2);focus (first | (with_reducible (repeat (first | exact Z0 | apply Z1));done) | (repeat (first | exact Z0 | apply Z1)))));exact Z3) ?_
 · exact ⟨Nat.zero_le _,by rw [List.length_append,hn];rfl,fun j _ hj=>List.getElem?_append_left Om⟩
 rintro ⟨z,f⟩ ⟨hle_z,hfl,hfq⟩
 try simp only [List.cons_append,List.nil_append]
 refine qG (qG (qC (.q 0 (.q 1 (.q 2 (.q 3 (.q 4 (.done)))))) Kr ?_))
 refine qK rfl rfl rfl rfl (qL (k:=4) rfl rfl rfl rfl υ'25 rfl ζ'23 rfl ?_)
 refine qP (j:=4) rfl rfl rfl rfl α'23 Tk Az (by rfl) ?_
 refine cH rfl rfl rfl rfl υ'23 ?_
 refine qN rfl rfl rfl rfl rfl (sK _ _ _ _) ?_
 refine qS (qW [1,2,5,6,8,10,65] (e':=[(1,_),(2,_),(5,_),(6,_),(8,_),(10,_),(65,_)]) rfl ?_)
 refine qQ ?_
 refine qB rfl (fun hlt=>?_) (fun hlt=>?_)
 ·
  refine qF (qQ (qG (kS (qG (qG ?_)))))
  obtain ⟨p,hp⟩:=cP (l:=pl) (i:=z) Om
  have hpf:f[z]?=some p:=(hfq z (Nat.le_refl _) Om).trans hp
  refine kX rfl (.q 0 (.q 1 (.q 2 (.q 3 (.q 4 (.q 5 (.q 6 (.q 7 (.q 8 (.q 9 (.q 10 (.done)))))))))))) Kr ?_
  refine qL (k:=4) rfl rfl rfl rfl υ'25 rfl ζ'23 rfl ?_
  refine qP (j:=4) rfl rfl rfl rfl α'23 Tk Az (by rfl) ?_
  refine qK rfl rfl rfl rfl (kY (sz:=0) (k:=z) (enc:=encZ) (xs:=f) rfl rfl rfl rfl rfl υ'23 ζ'3 hpf (by first | rfl | omega) Om Tk ?_)
  intro ib71 io71 ha71 hl71 hc71
  refine kQ (v:=(.int .i64 p)) (j:=0) (k':=z) (enc:=encZ) (off:=io71) rfl rfl rfl rfl α'3 ha71 encZ_len hpf Tk (by first | rfl | exact (Nat.add_zero _).symm | omega) (by rfl) ?_
  refine qL (k:=4) rfl rfl rfl rfl υ'25 rfl ζ'23 rfl ?_
  refine qP (j:=4) rfl rfl rfl rfl α'23 Tk Az (by rfl) ?_
  refine qK rfl rfl rfl rfl (rC (sz:=0) (k:=z) rfl rfl rfl rfl rfl υ'23 ζ'3 (hr) hp encZ_len (by first | rfl | omega) Om ?_)
  intro ib76 io76 _ hd76
  refine q_load rfl rfl rfl rfl α'3 Tk (hd76 0 (.int .i64 p) rfl) ?_
  refine qN rfl rfl rfl rfl rfl (b_neq _ _ _ _) ?_
  refine kH 78 rfl (v':=.bool false) (by first | rfl | simp) ?_
  refine qS (qW [1,2,5,6,8,10,78] (e':=[(1,_),(2,_),(5,_),(6,_),(8,_),(10,_),(78,_)]) rfl ?_)
  refine qQ (kB rfl ?_)
  refine qF (qQ (qC (.q 0 (.q 1 (.q 2 (.q 3 ((.l 4 [] (.done))))))) Kr ?_))
  refine qL (k:=4) rfl rfl rfl rfl υ'25 rfl ζ'23 rfl ?_
  refine qP (j:=4) rfl rfl rfl rfl α'23 Tk Az (by rfl) ?_
  refine qK rfl rfl rfl rfl (kY (sz:=0) (k:=z) (enc:=encZ) (xs:=f) rfl rfl rfl rfl rfl υ'23 ζ'3 hpf (by first | rfl | omega) Om Tk ?_)
  intro ib82 io82 ha82 hl82 hc82
  refine kJ (j:=0) (k:=z) (q:=77) (enc:=encZ) (off:=io82) rfl rfl rfl rfl ζ'3 (us:=[_]) rfl rfl rfl ha82 encZ_len hpf Tk (by first | rfl | exact (Nat.add_zero _).symm | omega) (by first | decide | exact Nat.le_of_ble_eq_true rfl) (by rfl) ?_
  refine qV (qS (qW [1,2,5,6,8,10] (e':=[(1,_),(2,_),(5,_),(6,_),(8,_),(10,_)]) rfl ?_))
  refine kK (qQ (qC (.q 0 (.q 1 (.q 2 (.done)))) Kr ?_))
  refine qK rfl rfl rfl rfl (qN rfl rfl rfl rfl rfl (cV _ (by exact kG Om Om)) ?_)
  refine qR rfl rfl rfl rfl (qS (qQ ?_))
  refine cQ (x:=(z,f)) ((z+1,f.set z 77)) ?_ ?_ ?_ ?_
  · try dsimp only
    exact ⟨by omega,by rw [List.length_set];exact hfl,fun j h1 h2=>by rw [List.getElem?_set_ne Om];exact hfq j Om h2⟩
  · show n - (z+1) < n - z;omega
  · exact ⟨rfl,rfl,rfl,rfl,rfl,rfl,trivial⟩
  · (try simp only [List.cons_append,List.nil_append]);exact Tf
 refine cM (qZ (qZ (kV (qQ (qG (qG (qC (.q 0 (.q 1 (.done))) Kr ?_)))))))
 refine qK rfl rfl rfl rfl (cY rfl rfl rfl rfl υ'27 ?_)
 refine kH 84 rfl (v':=.bool true) rfl ?_
 refine qS (qW [1,6,8,84] (e':=[(1,_),(6,_),(8,_),(84,_)]) rfl ?_)
 refine qQ (cN rfl ?_)
 refine qG (qC ((.l 0 [] (.q 1 (.done)))) Kr ?_)
 have sp_8:=known_spec
 refine qM rfl rfl rfl rfl rfl rfl κ'11 (sp_8) Ts ?_
 rintro ⟨⟩ -
 try simp only [List.cons_append,List.nil_append]
 refine qV (qR rfl rfl rfl rfl (qS (qW [4] (e':=[(4,_)]) rfl ?_)))
 refine qQ (qJ (qD (cR rfl rfl (()) (by first | rfl | (first | rfl | (congr 1;done) | (congr 1 <;> first | rfl | omega | (simp;done) | (simp;omega)))) (by trivial) ?_)))
 exact Tf
theorem plays_spec (th va vo lk:Int) (pl:List Int) (ao:Option Addr) (n c:Nat) (A:HProp) (hr:RdS A ao (pl.flatMap encZ)) (hn:pl.length=n) (hb:n≤4000000) (L:List T5) (so:Option Addr) (m sc:Nat) (hs:RdS A so (L.flatMap enc5)) (hm:L.length=m) (hmb:m≤1900000):Spec Try.prog 7 [.agg #[.int .i64 th,.int .i64 va,.int .i64 vo,.int .i64 lk,.slice ao n c],.slice so m sc] [A] (fun (_:Unit)=>.bool true) (fun _=>True) (fun _=>[A]):=by
  by_cases hok:OkS th va vo lk pl
  · exact plays_ok th va vo lk pl ao n c A hr hn hb L so m sc hs hm hmb hok
  · exact plays_bad th va vo lk pl ao n c A hr hn hb L so m sc hs hm hmb hok
end Go.Ab.Fr
set_option linter.unusedVariables false
set_option linter.unusedSimpArgs false
namespace Go.Proofs.Ytjibehgfiljbgaa.frame
open Go Go.Ab Go.ChangeShapes Go.WideShapes Go.ChangeAt Go.RowKit
/-! The bound. -/
theorem one_le {H:Type} (d:DataW H):1≤Rows.uptoBulk d:=by
  cases d with
  | lit l=>cases l <;> simp [Rows.uptoBulk]
  | nil=>simp [Rows.uptoBulk]
  | ptr d=>simp [Rows.uptoBulk]
  | slice elems spare=>simp [Rows.uptoBulk]
  | agg parts=>simp [Rows.uptoBulk]
  | iface t d=>simp [Rows.uptoBulk]
  | map entries=>simp [Rows.uptoBulk]
  | held h=>simp [Rows.uptoBulk]
theorem part_le {H:Type} {d:DataW H} {l:List (DataW H)} (h:d∈l):Rows.uptoBulk d≤Rows.uptoBulkAll l:=by
  induction l with
  | nil=>cases h
  | cons x r ih =>
    simp only [Rows.uptoBulkAll]
    cases List.mem_cons.1 h with
    | inl e=>subst e;omega
    | inr e=>have:=ih e;omega
theorem length_le {H:Type} (l:List (DataW H)):l.length≤Rows.uptoBulkAll l:=by
  induction l with
  | nil=>simp [Rows.uptoBulkAll]
  | cons x r ih=>have:=one_le x;simp only [Rows.uptoBulkAll,List.length_cons];omega
theorem bound {H:Type} {l:List (DataW H)} (hk:Rows.uptoSmall H l=true):Rows.uptoBulkAll l≤1048576:=of_decide_eq_true hk
theorem bound_mem {H:Type} {l:List (DataW H)} {d:DataW H} (hk:Rows.uptoSmall H l=true) (h:d∈l):Rows.uptoBulk d≤1048576:=Nat.le_trans (part_le h) (bound hk)
theorem bulk_slice {H:Type} {es rs:List (DataW H)} {d:DataW H} (h:d∈es):Rows.uptoBulk d≤Rows.uptoBulk (.slice es rs):=by
  have:=part_le h
  simp only [Rows.uptoBulk];omega
theorem bulk_len {H:Type} (es rs:List (DataW H)):es.length≤Rows.uptoBulk (.slice es rs):=by
  have:=length_le es
  simp only [Rows.uptoBulk];omega
/-! The arguments read behind the call as before. -/
theorem trodAll_below {H:Type} {enc:TypeId × Value→H} {P:Program} (hl:laidOutB P=true) {W W':World} (hb:Below W.heap.size W W'):∀ {ts:List TypeId} {vs:List Value} {ds:List (DataW H)} {ps:List MemPlace},(∀ t∈ts,P.readableRec t=true∧t < P.types.size) →
    DataW.TrodAll enc P W 0 (fun _=>true) true ts vs ds ps→(∀ x∈ps,x.block < W.heap.size)→DataW.TrodAll enc P W' 0 (fun b=>decide (b < W.heap.size)) true ts vs ds ps
  | [],[],[],_,_,h,_=>h
  | t::ts,v::vs,d::ds,ps,hr,⟨p,q,h,hs,e⟩,hlt=>by
    subst e
    exact ⟨p,q,Below.trod hl (hr t (by simp)).1 (hr t (by simp)).2 h hb (fun x hx=>hlt x (List.mem_append_left _ hx)),trodAll_below hl hb (fun t ht=>hr t (List.mem_cons_of_mem _ ht)) hs (fun x hx=>hlt x (List.mem_append_right _ hx)),rfl⟩
theorem law_post {H:Type} {enc:TypeId × Value→H} {P:Program} {f:Func} {s:ChangeSpec} {W W':World} {args:Array Value} {ds gs:List (DataW H)} {before:List MemPlace} {tb:TypeId}
    (hl:laidOutB P=true) (hr:∀ t∈f.params.toList,P.readableRec t=true∧t < P.types.size) (hvars:s.vars=[]) (hres:f.resultTypes=#[tb]) (hb:P.underlying tb=some .bool)
    (hf:s.fn H (ds++gs)={ results:=[.lit (.bool true)],args:=ds,vars:=[] }) (hW:DataW.Whole enc P f.params.toList s.vars false W args.toList ds gs before) (bel:Below W.heap.size W W'):s.post enc P f false true false false W args (.bool true) W':=by
  have hW':=hW
  obtain ⟨p,q,hA,hV,rfl,hfz,hnd⟩:=hW
  rw [hvars] at hV
  obtain ⟨rfl,rfl⟩:=trodVars_none hV
  have hA':DataW.TrodAll enc P W 0 (fun _=>true) true f.params.toList args.toList ds p:=hA
  refine ⟨ds,[],p++[],[],p,[],hW',?_,?_,?_,bel.frame _,fun h=>by cases h⟩
  · rw [hf,hres]
    exact trodAll_mk1 (shut_bool hb true)
  · rw [hf]
    exact trodAll_below hl bel hr hA' (fun x hx=>hW'.lt x (List.mem_append_left _ hx))
  · rw [hf,hvars]
    exact rfl
theorem spec_calls {P:Program} {f:FuncId} {args:List Value} {W:World} (h:Ab.Spec P f args [base W] (fun (_:Unit)=>.bool true) (fun _=>True) (fun _=>[base W])):Calls P f args.toArray W fun e W'=>e=.returned (.bool true)∧Below W.heap.size W W' :=
  (h [] W (base_self W)).mono fun e w' ⟨_,e1,_,s,a⟩=>⟨e1,below_of_base s a⟩
/-! Arguments are opened. -/
theorem spot_of_cell {W:World} {a:Addr} {v:Value} (h:W.cell? a=some v):a.spot=none:=by
  unfold World.cell? at h
  split at h
  · split at h
    · cases h
    · rename_i hs;simpa using hs
  · cases h
theorem choose_list {α:Type}:∀ (n:Nat) (Q:Nat→α→Prop),(∀ i,i < n→∃ x,Q i x)→∃ xs:List α,xs.length=n∧∀ i x,xs[i]?=some x→Q i x
  | 0,Q,_=>⟨[],rfl,fun i x h=>by simp at h⟩
  | n+1,Q,h=>by
    obtain ⟨xs,h1,h2⟩:=choose_list n Q (fun i hi=>h i Om)
    obtain ⟨x,hx⟩:=h n Om
    refine ⟨xs++[x],by simp [h1],fun i y hy=>?_⟩
    rcases Nat.lt_trichotomy i n with hi | hi | hi
    · rw [List.getElem?_append_left Om] at hy;exact h2 i y hy
    · subst hi;rw [List.getElem?_append_right Om,h1,Nat.sub_self] at hy;simp at hy;subst hy;exact hx
    · rw [List.getElem?_eq_none (by simp;omega)] at hy;cases hy
theorem rdn_flat_mk {α:Type} {A:HProp} {b sz:Nat} {enc:α→List Value} (hsz:∀ x,(enc x).length=sz):∀ (xs:List α) (o:Nat),(∀ i x,xs[i]?=some x→RdN A b (o+i*sz) (enc x))→RdN A b o (xs.flatMap enc)
  | [],o,_=>fun i v h=>by simp at h
  | x::xs,o,h=>fun i v hv=>by
    rw [List.flatMap_cons] at hv
    by_cases hi:i < (enc x).length
    · rw [List.getElem?_append_left hi] at hv
      have:=h 0 x rfl i v hv
      rwa [Nat.zero_mul,Nat.add_zero] at this
    · rw [List.getElem?_append_right Om,hsz] at hv
      rw [hsz] at hi
      have ih:=rdn_flat_mk hsz xs (o+sz) (fun i y hy=>by
        have:=h (i+1) y (by simpa using hy)
        rw [Nat.succ_mul] at this
        rwa [show o+sz+i*sz=o+(i*sz+sz) from by omega])
      have:=ih (i - sz) v hv
      rwa [show o+sz+(i - sz)=o+i from by omega] at this
/-- A slice among what is read: its elements are opened by 'hel'. -/
theorem open_sl {α H:Type} {enc:TypeId × Value→H} {P:Program} {W:World} {t e:TypeId} {ao:Option Addr} {len cap sz fuel:Nat} {y:DataW H × List MemPlace} {enc':α→List Value} {Q:α→DataW H→Prop} (ht:P.underlying t=some (.slice e)) (hc:P.cellsOf e=sz+1) (hsz:∀ x,(enc' x).length=sz+1)
    (hel:∀ n cs y,DataW.trod enc P W 0 (fun _=>true) true n e cs=some y→cs.length=sz+1→∃ x:α,enc' x=cs∧Q x y.1)
    (h:DataW.trod enc P W 0 (fun _=>true) true fuel t [.slice ao len cap]=some y) :
    ∃ xs:List α,xs.length=len∧RdS (base W) ao (xs.flatMap enc')∧len≤cap∧cap≤maxLen∧xs.length≤Rows.uptoBulk y.1∧(∀ x∈xs,∃ d,Q x d∧Rows.uptoBulk d≤Rows.uptoBulk y.1)∧(ao=none→cap=0):=by
  rcases DataW.trod_slice ht h with ⟨h1,h2⟩ | ⟨a,len',cap',elems,rest,n,-,h1,h2,-,hl,hm,hlen,hel',-⟩
  · simp only [List.cons.injEq,Value.slice.injEq,and_true] at h1
    obtain ⟨rfl,rfl,rfl⟩:=h1
    exact ⟨[],rfl,.inl rfl,Nat.le_refl _,Nat.zero_le _,Nat.zero_le _,fun _ h=>(by cases h),fun _=>rfl⟩
  · simp only [List.cons.injEq,Value.slice.injEq,and_true] at h1
    obtain ⟨rfl,rfl,rfl⟩:=h1
    subst h2
    have key:∀ i,i < len→∃ x:α,∃ cs y,W.cells? 0 (a.add (i*(sz+1))) (sz+1)=some cs∧elems[i]?=some y∧enc' x=cs∧Q x y.1:=by
      intro i hi
      have h3:=hel' i hi
      rw [List.getElem?_eq_getElem Om,hc,Option.bind_eq_some_iff] at h3
      obtain ⟨cs,h4,h5⟩:=h3
      have h6:=World.cells?_some h4
      obtain ⟨x,hx,hq⟩:=hel n cs _ h5 (by have:=mapM_some_length (by unfold World.cells? at h4;rwa [if_pos (Nat.zero_le _)] at h4);simpa using this)
      exact ⟨x,cs,_,h4,List.getElem?_eq_getElem Om,hx,hq⟩
    obtain ⟨xs,hx1,hx2⟩:=choose_list len _ key
    have hcell:∀ i x,xs[i]?=some x→∀ j v,(enc' x)[j]?=some v→W.cell? ((a.add (i*(sz+1))).add j)=some v:=by
      intro i x hx j v hv
      obtain ⟨cs,y,h4,-,h5,-⟩:=hx2 i x hx
      subst h5
      unfold World.cells? at h4
      rw [if_pos (Nat.zero_le _)] at h4
      have hj:j < sz+1:=by rw [← hsz x];exact (List.getElem?_eq_some_iff.1 hv).1
      have:=mapM_some_get h4 j j (by simp [hj])
      rw [this,hv]
    refine ⟨xs,hx1,?_,hl,hm,?_,?_,fun h=>by cases h⟩
    · cases hxs:xs with
      | nil=>exact .inl rfl
      | cons x0 xs' =>
        obtain ⟨v0,hv0⟩:=cP (l:=enc' x0) (i:=0) (by rw [hsz];omega)
        have h6:=hcell 0 x0 (by rw [hxs];rfl) 0 v0 hv0
        rw [Nat.zero_mul] at h6
        have hsp:a.spot=none:=spot_of_cell (by simpa [Addr.add] using h6)
        obtain ⟨b,o,sp⟩:=a
        simp only at hsp
        subst hsp
        refine .inr ⟨b,o,rfl,?_⟩
        rw [← hxs]
        refine rdn_flat_mk hsz xs o fun i x hx j v hv=>rd_base ?_
        have:=hcell i x hx j v hv
        rwa [add_none,add_none] at this
    · have:=bulk_len (elems.map (·.1)) (rest.map (·.1))
      rw [List.length_map,hlen] at this
      rw [hx1];exact this
    · intro x hx
      obtain ⟨i,hi⟩:=List.getElem?_of_mem hx
      obtain ⟨cs,y,-,h5,-,h7⟩:=hx2 i x hi
      exact ⟨y.1,h7,bulk_slice (List.mem_map_of_mem (List.mem_of_getElem? h5))⟩
/-- Whole arguments. -/
theorem arg_sl {α H:Type} {enc:TypeId × Value→H} {P:Program} {W:World} {t e:TypeId} {v:Value} {d:DataW H} {ps:List MemPlace} {bs sz:Nat} {enc':α→List Value} {Q:α→DataW H→Prop} (ht:P.underlying t=some (.slice e)) (hc:P.cellsOf e=sz+1) (hsz:∀ x,(enc' x).length=sz+1)
    (hel:∀ n cs y,DataW.trod enc P W 0 (fun _=>true) true n e cs=some y→cs.length=sz+1→∃ x:α,enc' x=cs∧Q x y.1)
    (hval:Value.okWide P W .any bs t v) (h:DataW.Trod enc P W 0 (fun _=>true) true t v d ps) :
    ∃ (xs:List α) (ao:Option Addr) (cap:Nat),v=.slice ao xs.length cap∧RdS (base W) ao (xs.flatMap enc')∧xs.length≤cap∧cap≤maxLen∧xs.length≤Rows.uptoBulk d∧(∀ x∈xs,∃ y,Q x y∧Rows.uptoBulk y≤Rows.uptoBulk d)∧(ao=none→cap=0):=by
  obtain ⟨ao,len,cap,rfl⟩:=okWide_slice ht hval
  obtain ⟨n,hn⟩:=h
  obtain ⟨xs,h1,h2,h3,h4,h5,h6,h7⟩:=open_sl ht hc hsz hel (y:=(d,ps)) (by simpa [Value.cells] using hn)
  subst h1
  exact ⟨xs,ao,cap,rfl,h2,h3,h4,h5,h6,h7⟩
/-- A slice of an element of a slice. -/
theorem el_sl {α H:Type} {enc:TypeId × Value→H} {P:Program} {W:World} {t e:TypeId} {sz:Nat} {enc':α→List Value} {Q:α→DataW H→Prop} (ht:P.underlying t=some (.slice e)) (hc:P.cellsOf e=sz+1) (hsz:∀ x,(enc' x).length=sz+1)
    (hel:∀ n cs y,DataW.trod enc P W 0 (fun _=>true) true n e cs=some y→cs.length=sz+1→∃ x:α,enc' x=cs∧Q x y.1)
    (n:Nat) (cs:List Value) (y:DataW H × List MemPlace) (h:DataW.trod enc P W 0 (fun _=>true) true n t cs=some y) (hl:cs.length=0+1) :
    ∃ x:LstA α,encH x=cs∧(RdS (base W) x.1 (x.2.2.flatMap enc')∧x.2.2.length≤Rows.uptoBulk y.1∧(∀ z∈x.2.2,∃ d,Q z d∧Rows.uptoBulk d≤Rows.uptoBulk y.1)∧x.2.2.length≤x.2.1):=by
  have h0:∃ ao len cap,cs=[.slice ao len cap]:=by
    rcases DataW.trod_slice ht h with ⟨h1,-⟩ | ⟨a,len',cap',elems,rest,n,-,h1,-⟩
    · exact ⟨_,_,_,h1⟩
    · exact ⟨_,_,_,h1⟩
  obtain ⟨ao,len,cap,rfl⟩:=h0
  obtain ⟨xs,h1,h2,h3,h4,h5,h6,h7⟩:=open_sl ht hc hsz hel h
  subst h1
  exact ⟨(ao,cap,xs),rfl,h2,h5,h6,h3⟩
/-- An integer. -/
theorem el_int {H:Type} {enc:TypeId × Value→H} {P:Program} {W:World} {e:TypeId} {k:IntKind} (he:P.underlying e=some (.int k)) (n:Nat) (cs:List Value) (y:DataW H × List MemPlace) (h:DataW.trod enc P W 0 (fun _=>true) true n e cs=some y) (hl:cs.length=0+1):∃ x:Int,[Value.int k x]=cs∧(Lit.int k x).wf=true:=by
  obtain ⟨m,rfl,rfl,hw⟩:=DataW.trod_int he h
  exact ⟨m,rfl,hw⟩
end Go.Proofs.Ytjibehgfiljbgaa.frame
set_option linter.unusedVariables false
set_option linter.unusedSimpArgs false
namespace Go.Proofs.Ytjibehgfiljbgaa.frame
open Go Go.Ab Go.ChangeShapes Go.WideShapes Go.ChangeAt Go.RowKit
variable {α β H:Type} {enc:TypeId × Value→H} {P:Program} {W:World} {e:TypeId} {fs:Array Field} {m:Nat} {cs:List Value} {B:Nat}
/-- How an element of type e is opened. -/
abbrev El (enc:TypeId × Value→H) (P:Program) (W:World) (e:TypeId) (sz:Nat) (encA:α→List Value) (Q:α→DataW H→Prop):Prop :=
  ∀ n cs y,DataW.trod enc P W 0 (fun _=>true) true n e cs=some y→cs.length=sz→∃ x:α,encA x=cs∧Q x y.1
/-- What is known of the fields from i on. -/
def FR (enc:TypeId × Value→H) (P:Program) (W:World) (fs:Array Field) (m i:Nat) (cs:List Value) (B:Nat):Prop :=
  ∀ j f,i≤j→fs[j]?=some f→∃ y:DataW H × List MemPlace,DataW.trod enc P W 0 (fun _=>true) true m f.type ((cs.drop f.offset).take (P.cellsOf f.type))=some y∧Rows.uptoBulk y.1≤B
theorem fr_start {n:Nat} {y:DataW H × List MemPlace} (he:P.underlying e=some (.struct fs)) (h:DataW.trod enc P W 0 (fun _=>true) true n e cs=some y):∃ m,FR enc P W fs m 0 cs (Rows.uptoBulk y.1):=by
  obtain ⟨xs,m,-,hy,-,hxs,hf⟩:=DataW.trod_struct he h
  refine ⟨m,fun j f _ hj=>?_⟩
  have hlt:j < xs.length:=by rw [hxs];exact (Array.getElem?_eq_some_iff.1 hj).1
  have:=hf j f hj
  rw [List.getElem?_eq_getElem hlt] at this
  refine ⟨_,this,?_⟩
  rw [hy]
  have hp:=part_le (l:=xs.map (·.1)) (d:=xs[j].1) (List.mem_map_of_mem (List.getElem_mem hlt))
  simp only [Rows.uptoBulk]
  omega
/-- Fields from i on, opened. -/
abbrev Fo (enc:TypeId × Value→H) (P:Program) (W:World) (fs:Array Field) (i off sz:Nat) (encA:α→List Value) (Q:α→Nat→Prop):Prop :=
  ∀ m cs B,FR enc P W fs m i cs B→cs.length=off+sz→∃ x:α,encA x=cs.drop off∧Q x B
theorem fo_last {i off sz:Nat} {f:Field} {encA:α→List Value} {Q:α→DataW H→Prop} (hf:fs[i]?=some f) (ho:f.offset=off) (hc:P.cellsOf f.type=sz) (el:El enc P W f.type sz encA Q) :
    Fo enc P W fs i off sz encA (fun x B=>∃ d,Q x d∧Rows.uptoBulk d≤B):=by
  intro m cs B h hl
  obtain ⟨y,hy,hb⟩:=h i f (Nat.le_refl _) hf
  rw [ho,hc,List.take_of_length_le (by rw [List.length_drop];omega)] at hy
  obtain ⟨x,hx,hq⟩:=el m _ y hy (by rw [List.length_drop];omega)
  exact ⟨x,hx,y.1,hq,hb⟩
theorem fo_cons {i off sz n:Nat} {f:Field} {encA:α→List Value} {Q:α→DataW H→Prop} {encB:β→List Value} {R:β→Nat→Prop} (hf:fs[i]?=some f) (ho:f.offset=off) (hc:P.cellsOf f.type=sz) (el:El enc P W f.type sz encA Q)
    (rest:Fo enc P W fs (i+1) (off+sz) n encB R):Fo enc P W fs i off (sz+n) (fun x:α × β=>encA x.1++encB x.2) (fun x B=>(∃ d,Q x.1 d∧Rows.uptoBulk d≤B)∧R x.2 B):=by
  intro m cs B h hl
  obtain ⟨y,hy,hb⟩:=h i f (Nat.le_refl _) hf
  rw [ho,hc] at hy
  obtain ⟨x,hx,hq⟩:=el m _ y hy (by rw [List.length_take,List.length_drop];omega)
  obtain ⟨z,hz,hr⟩:=rest m cs B (fun j g hj hg=>h j g Om hg) Om
  refine ⟨(x,z),?_,⟨y.1,hq,hb⟩,hr⟩
  show encA x++encB z=_
  rw [hx,hz,← List.drop_drop,List.take_append_drop]
theorem el_struct {sz:Nat} {encA:α→List Value} {Q:α→Nat→Prop} (he:P.underlying e=some (.struct fs)) (fo:Fo enc P W fs 0 0 sz encA Q):El enc P W e sz encA (fun x d=>Q x (Rows.uptoBulk d)):=by
  intro n cs y h hl
  obtain ⟨m,hm⟩:=fr_start he h
  obtain ⟨x,hx,hq⟩:=fo m cs _ hm Om
  exact ⟨x,hx,hq⟩
/-- A struct handed in. -/
theorem arg_struct {t:TypeId} {v:Value} {d:DataW H} {ps:List MemPlace} {bs sz:Nat} {encA:α→List Value} {Q:α→DataW H→Prop} (ht:P.underlying t=some (.struct fs)) (hc:P.cellsOf t=sz) (el:El enc P W t sz encA Q)
    (hval:Value.okWide P W .any bs t v) (h:DataW.Trod enc P W 0 (fun _=>true) true t v d ps):∃ x:α,v=.agg (encA x).toArray∧Q x d:=by
  obtain ⟨cs,rfl,hs⟩:=okWide_struct ht hval
  obtain ⟨n,hn⟩:=h
  obtain ⟨x,hx,hq⟩:=el n cs.toList (d,ps) (by simpa [Value.cells] using hn) (by simpa [hc] using hs)
  exact ⟨x,by rw [hx],hq⟩
end Go.Proofs.Ytjibehgfiljbgaa.frame
