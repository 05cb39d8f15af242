/- What the law Plays rests on, part 4 of 8. -/
import Derived.Test.YtjibehgfiljbgaaPlaysC
set_option linter.unusedVariables false
set_option linter.unusedSimpArgs false
set_option maxRecDepth 100000
namespace Go.Ab.Vc
open Go Go.Proofs Go.Ab
theorem or_pack {t c:Nat} (ht:t < 65536) (hc:c < 281474976710656):orV .u64 ((t*281474976710656:Nat):Int) (c:Int)=((t*281474976710656+c:Nat):Int):=by
  have h1:(t*281474976710656 ||| c)=t*281474976710656+c:=by
    have:=Nat.shiftLeft_add_eq_or_of_lt (i:=48) (b:=c) Om t
    rw [Nat.shiftLeft_eq] at this
    exact this.symm
  have h2:(BitVec.ofInt IntKind.u64.bits ((t*281474976710656:Nat):Int) ||| BitVec.ofInt IntKind.u64.bits (c:Int)).toNat=t*281474976710656+c:=by
    show (BitVec.ofInt 64 _ ||| BitVec.ofInt 64 _).toNat=_
    rw [BitVec.ofInt_natCast,BitVec.ofInt_natCast,BitVec.toNat_or,BitVec.toNat_ofNat,BitVec.toNat_ofNat,Nat.mod_eq_of_lt Om,Nat.mod_eq_of_lt Om,h1]
  rw [orV,h2]
  exact wrap_fits (fits_u64 Om Om)
theorem and_mask {e:Nat} (he:e < 18446744073709551616):andV .u64 (e:Int) 281474976710655=((e % 281474976710656:Nat):Int):=by
  have h2:(BitVec.ofInt IntKind.u64.bits (e:Int) &&& BitVec.ofInt IntKind.u64.bits 281474976710655).toNat=e % 281474976710656:=by
    show (BitVec.ofInt 64 _ &&& BitVec.ofInt 64 ((281474976710655:Nat):Int)).toNat=_
    rw [BitVec.ofInt_natCast,BitVec.ofInt_natCast,BitVec.toNat_and,BitVec.toNat_ofNat,BitVec.toNat_ofNat,Nat.mod_eq_of_lt Om,Nat.mod_eq_of_lt Om]
    exact Nat.and_two_pow_sub_one_eq_mod e 48
  rw [andV,h2]
  exact wrap_fits (fits_u64 Om Om)
/-- May an epoch be? Its thread, its clock. -/
abbrev epV (e:Nat):Prop:=e≠0∧e / 281474976710656 < 65535∧e % 281474976710656≠0
def epT (e:Nat):Nat:=if epV e then e / 281474976710656 else 0
def epC (e:Nat):Nat:=if epV e then e % 281474976710656 else 0
/-- Has a vector an epoch? -/
def hasE (e:Nat) (l:List Int):Prop:=(epC e:Int)≤l.getD (epT e) 0
instance (e:Nat) (l:List Int):Decidable (hasE e l):=inferInstanceAs (Decidable (_≤_))
/-- A thread's epoch. -/
def eN (l:List Int) (t:Nat):Nat:=if l.getD t 0=0 then 0 else t*281474976710656+(l.getD t 0).toNat
theorem epT_lt (e:Nat):epT e < 65535:=by
  unfold epT;split
  · rename_i h;exact h.2.1
  · decide
theorem parts_spec (e:Nat) (he:e < 18446744073709551616):Spec Try.prog 101 [.int .u64 ((e:Nat):Int)] [] (fun (_:Unit)=>.tuple #[.int .u16 ((epT e:Nat):Int),.int .u64 ((epC e:Nat):Int),.bool (decide (e=0∨epV e))]) (fun _=>True) (fun _=>[]):=by
 refine kP (n:=24) Try.func101 rfl rfl rfl ?_
 intro Γ w0
 simp only [argE,List.cons_append,List.nil_append,Nat.zero_add,Nat.reduceAdd]
 refine qG (qC (.q 0 (.q 1 (.q 2 (.done)))) Kr ?_)
 refine qR rfl rfl rfl rfl (qR rfl rfl rfl rfl (qR rfl rfl rfl rfl (qS (qQ (qG (qC (.q 0 (.q 1 (.done))) Kr ?_))))))
 refine qK rfl rfl rfl rfl (qR rfl rfl rfl rfl (qS (qW [0,5] (e':=[(0,_),(5,_)]) rfl ?_)))
 refine qQ (qG (qC (.q 0 (.q 1 (.q 2 (.done)))) Kr ?_))
 refine qK rfl rfl rfl rfl (qN rfl rfl rfl rfl rfl (b_and _ _ _ _) ?_)
 refine kH 9 rfl (v':=.int .u64 ((e % 281474976710656:Nat):Int)) (by rw [and_mask he]) ?_
 refine qR rfl rfl rfl rfl (qS (qQ (qG (qC (.q 0 (.q 1 (.done))) Kr ?_))))
 refine qK rfl rfl rfl rfl (qR rfl rfl rfl rfl (qS (qQ (qG (qC (.q 0 (.q 1 (.q 2 (.done)))) Kr ?_)))))
 refine qK rfl rfl rfl rfl (qN rfl rfl rfl rfl rfl (b_shrL _ 48 281474976710656 rfl (by decide) rfl) ?_)
 refine kH 12 rfl (v':=.int .u64 (((e / 281474976710656):Nat):Int)) (by first | rfl | (congr 1;omega)) ?_
 refine qR rfl rfl rfl rfl (qS (qW [0,5,6] (e':=[(0,_),(5,_),(6,_)]) rfl ?_))
 refine qQ (qG (qG (qC (.q 0 (.q 1 (.done))) Kr ?_)))
 refine qK rfl rfl rfl rfl (qN rfl rfl rfl rfl rfl (cS _ _ _ _) ?_)
 refine qS (qQ ?_)
 refine qB rfl (fun hz=>?_) (fun hz=>?_)
 ·
  have hnv:¬ epV e:=fun h=>h.1 Om
  refine qG (qC (.q 0 (.q 1 (.q 2 (.done)))) Kr ?_)
  refine qR rfl rfl rfl rfl (qR rfl rfl rfl rfl (qR rfl rfl rfl rfl (qS (qW [2,3,4] (e':=[(2,_),(3,_),(4,_)]) rfl ?_))))
  refine qQ (qJ (qD (retL (us:=[_,_,_]) rfl ⟨rv_tmp rfl,rv_tmp rfl,rv_tmp rfl,trivial⟩ (()) (by first | (have hd:decide (e=0∨epV e)=true:=decide_eq_true (.inl Om);rw [epT,epC,if_neg hnv,if_neg hnv,hd];rfl) | (have hnv:¬ epV e:=(fun h=>by have h2:=h.2.1;have h3:=h.2.2;omega);have hd:decide (e=0∨epV e)=false:=decide_eq_false (fun h=>h.elim (fun h=>by omega) hnv);rw [epT,epC,if_neg hnv,if_neg hnv,hd];rfl) | (have hv:epV e:=⟨by omega,by omega,by omega⟩;rw [epT,epC,if_pos hv,if_pos hv,decide_eq_true (Or.inr hv)];rfl)) (by trivial) ?_)))
  exact Tf
 refine qF (qQ (qG (qG (qC (.q 0 (.q 1 (.q 2 (.q 3 (.q 4 (.q 5 (.done))))))) Kr ?_))))
 refine qK rfl rfl rfl rfl (qN rfl rfl rfl rfl rfl (b_geq _ _ _ _) ?_)
 refine qK rfl rfl rfl rfl ?_
 refine cL 17 rfl (fun hth=>?_) (fun hth=>?_)
 ·
  refine qY rfl rfl rfl rfl (qY rfl rfl rfl rfl (kZ rfl rfl rfl rfl rfl (qS (qW [5,6,20] (e':=[(5,_),(6,_),(20,_)]) rfl ?_))))
  refine qQ (cN rfl ?_)
  refine qG (qC (.q 0 (.q 1 (.q 2 (.done)))) Kr ?_)
  refine qR rfl rfl rfl rfl (qR rfl rfl rfl rfl (qR rfl rfl rfl rfl (qS (qQ (qJ (qD (retL (us:=[_,_,_]) rfl ⟨rv_tmp rfl,rv_tmp rfl,rv_tmp rfl,trivial⟩ (()) (by first | (have hd:decide (e=0∨epV e)=true:=decide_eq_true (.inl Om);rw [epT,epC,if_neg hnv,if_neg hnv,hd];rfl) | (have hnv:¬ epV e:=(fun h=>by have h2:=h.2.1;have h3:=h.2.2;omega);have hd:decide (e=0∨epV e)=false:=decide_eq_false (fun h=>h.elim (fun h=>by omega) hnv);rw [epT,epC,if_neg hnv,if_neg hnv,hd];rfl) | (have hv:epV e:=⟨by omega,by omega,by omega⟩;rw [epT,epC,if_pos hv,if_pos hv,decide_eq_true (Or.inr hv)];rfl)) (by trivial) ?_)))))))
  exact Tf
 refine qK rfl rfl rfl rfl (qN rfl rfl rfl rfl rfl (cS _ _ _ _) ?_)
 refine kC rfl rfl rfl rfl rfl (qS (qW [5,6,20] (e':=[(5,_),(6,_),(20,_)]) rfl ?_))
 refine qQ ?_
 refine qB rfl (fun hcl=>?_) (fun hcl=>?_)
 ·
  refine qG (qC (.q 0 (.q 1 (.q 2 (.done)))) Kr ?_)
  refine qR rfl rfl rfl rfl (qR rfl rfl rfl rfl (qR rfl rfl rfl rfl (qS (qQ (qJ (qD (retL (us:=[_,_,_]) rfl ⟨rv_tmp rfl,rv_tmp rfl,rv_tmp rfl,trivial⟩ (()) (by first | (have hd:decide (e=0∨epV e)=true:=decide_eq_true (.inl Om);rw [epT,epC,if_neg hnv,if_neg hnv,hd];rfl) | (have hnv:¬ epV e:=(fun h=>by have h2:=h.2.1;have h3:=h.2.2;omega);have hd:decide (e=0∨epV e)=false:=decide_eq_false (fun h=>h.elim (fun h=>by omega) hnv);rw [epT,epC,if_neg hnv,if_neg hnv,hd];rfl) | (have hv:epV e:=⟨by omega,by omega,by omega⟩;rw [epT,epC,if_pos hv,if_pos hv,decide_eq_true (Or.inr hv)];rfl)) (by trivial) ?_)))))))
  exact Tf
 refine qF (qQ (qG (qC (.q 0 (.q 1 (.q 2 (.q 3 (.q 4 (.q 5 (.done))))))) Kr ?_)))
 refine qK rfl rfl rfl rfl (q_conv' rfl rfl rfl rfl Try.underlying176 υ'48 (by simp only [fits,IntKind.min,IntKind.max,IntKind.signed,IntKind.bits];simp;omega) ?_)
 refine qK rfl rfl rfl rfl (qR rfl rfl rfl rfl (qR rfl rfl rfl rfl (qR rfl rfl rfl rfl (qS (qW [2,3,4] (e':=[(2,_),(3,_),(4,_)]) rfl ?_)))))
 refine qQ (qJ (retL (us:=[_,_,_]) rfl ⟨rv_tmp rfl,rv_tmp rfl,rv_tmp rfl,trivial⟩ (()) (by first | (have hd:decide (e=0∨epV e)=true:=decide_eq_true (.inl Om);rw [epT,epC,if_neg hnv,if_neg hnv,hd];rfl) | (have hnv:¬ epV e:=(fun h=>by have h2:=h.2.1;have h3:=h.2.2;omega);have hd:decide (e=0∨epV e)=false:=decide_eq_false (fun h=>h.elim (fun h=>by omega) hnv);rw [epT,epC,if_neg hnv,if_neg hnv,hd];rfl) | (have hv:epV e:=⟨by omega,by omega,by omega⟩;rw [epT,epC,if_pos hv,if_pos hv,decide_eq_true (Or.inr hv)];rfl)) (by trivial) ?_))
 exact Tf
theorem pack_spec (t c:Nat) (ht:t < 65535) (hc:0 < c∧c < 281474976710656):Spec Try.prog 83 [.int .i64 ((t:Nat):Int),.int .u64 ((c:Nat):Int)] [] (fun (_:Unit)=>.tuple #[.int .u64 ((t*281474976710656+c:Nat):Int),.int .i64 0]) (fun _=>True) (fun _=>[]):=by
 refine kP (n:=29) Try.func83 rfl rfl rfl ?_
 intro Γ w0
 simp only [argE,List.cons_append,List.nil_append,Nat.zero_add,Nat.reduceAdd]
 refine qG (qC (.q 0 (.q 1 (.done))) Kr ?_)
 refine qR rfl rfl rfl rfl (qR rfl rfl rfl rfl (qS (qQ (qG (qG (qC (.q 0 (.q 1 (.q 2 (.q 3 (.q 4 (.q 5 (.q 6 (.q 7 (.q 8 (.q 9 (.q 10 (.q 11 (.q 12 (.q 13 (.done))))))))))))))) Kr ?_))))))
 refine qK rfl rfl rfl rfl (qN rfl rfl rfl rfl rfl (sK _ _ _ _) ?_)
 refine qK rfl rfl rfl rfl ?_
 refine cL 9 rfl (fun hg=>by exfalso;omega) (fun hg=>?_)
 refine qK rfl rfl rfl rfl (qN rfl rfl rfl rfl rfl (b_geq _ _ _ _) ?_)
 refine kC rfl rfl rfl rfl rfl (qK rfl rfl rfl rfl ?_)
 refine cL 13 rfl (fun hg=>by exfalso;omega) (fun hg=>?_)
 refine qK rfl rfl rfl rfl (qN rfl rfl rfl rfl rfl (cS _ _ _ _) ?_)
 refine kC rfl rfl rfl rfl rfl (qK rfl rfl rfl rfl ?_)
 refine cL 17 rfl (fun hg=>by exfalso;omega) (fun hg=>?_)
 refine qK rfl rfl rfl rfl (qN rfl rfl rfl rfl rfl (b_gtr _ _ _ _) ?_)
 refine kC rfl rfl rfl rfl rfl (qS (qW [0,1,20] (e':=[(0,_),(1,_),(20,_)]) rfl ?_))
 refine qQ ?_
 refine qB rfl (fun hg=>by exfalso;omega) (fun hg=>?_)
 refine qF (qQ (qG (qC (.q 0 (.q 1 (.q 2 (.done)))) Kr ?_)))
 refine qK rfl rfl rfl rfl (q_conv' rfl rfl rfl rfl υ'48 υ'3 (by exact fits_u64 Om Om) ?_)
 refine qR rfl rfl rfl rfl (qS (qW [1,6] (e':=[(1,_),(6,_)]) rfl ?_))
 refine qQ (qG (qC (.q 0 (.q 1 (.q 2 (.done)))) Kr ?_))
 refine qK rfl rfl rfl rfl (qN rfl rfl rfl rfl rfl (b_shlL _ 48 281474976710656 rfl (by decide) rfl) ?_)
 refine kH 24 rfl (v':=.int .u64 ((t*281474976710656:Nat):Int)) (by rw [wrap_fits (fits_u64 Om Om)];first | done | (congr 1;done) | (congr 1;omega)) ?_
 refine qR rfl rfl rfl rfl (qS (qQ (qG (qC (.q 0 (.q 1 (.q 2 (.q 3 (.done))))) Kr ?_))))
 refine qK rfl rfl rfl rfl (qK rfl rfl rfl rfl (qN rfl rfl rfl rfl rfl (b_or _ _ _ _) ?_))
 refine kH 27 rfl (v':=.int .u64 ((t*281474976710656+c:Nat):Int)) (by rw [or_pack Om Om]) ?_
 refine qR rfl rfl rfl rfl (qS (qW [6] (e':=[(6,_)]) rfl ?_))
 refine qQ (qG (qC (.q 0 (.q 1 (.q 2 (.done)))) Kr ?_))
 refine qK rfl rfl rfl rfl (qR rfl rfl rfl rfl (qR rfl rfl rfl rfl (qS (qQ (qJ (ret2 rfl rfl rfl (()) (by first | rfl | (first | rfl | (congr 1;done) | (congr 1 <;> first | rfl | omega | (simp;done) | (simp;omega)))) (by trivial) ?_))))))
 exact Tf
end Go.Ab.Vc
set_option linter.unusedVariables false
set_option linter.unusedSimpArgs false
set_option maxRecDepth 100000
namespace Go.Ab.Fa
open Go Go.Proofs Go.Ab Go.Ab.Fe Go.Ab.Vc Go.Ab.Dj
/-- What is kept of a variable: its write epoch, its read epoch, its shared reads, its flag. -/
abbrev P4F:=Nat × Nat × Option Addr × Int
abbrev V4F:=Nat × Nat × Option (List Int) × Int
def encF (x:P4F):List Value:=[.int .u64 (x.1:Int),.int .u64 (x.2.1:Int),.pointer x.2.2.1,.int .i64 x.2.2.2]
theorem encF_len:∀ x,(encF x).length=4:=fun _=>rfl
theorem encF_one:∀ x,(encF x).all Value.oneCell'=true:=fun _=>rfl
def fvarA (v:P4F) (t:V4F):HProp:=fun h=>v.1=t.1∧v.2.1=t.2.1∧v.2.2.2=t.2.2.2∧optA v.2.2.1 t.2.2.1 h
def keptA (a:Option Addr) (t:List Int × Int):HProp:=fun h=>∃ b ao cap,a=some ⟨b,0,none⟩∧Sat [cells b 0 [.slice ao t.1.length cap,.int .i64 t.2],own 1 encU ao cap t.1] h
section
variable {w0:World} {ds:List Deferred} {n:Nat} {e:Env} {Γ Γ':List HProp} {X:Act→World→Prop}
theorem s_fvar {v:P4F} {t:V4F} (tk:Take Γ (fvarA v t) Γ') (k:v.1=t.1→v.2.1=t.2.1→v.2.2.2=t.2.2.2→Le (St w0 ds n e (optA v.2.2.1 t.2.2.1::Γ')) X):Le (St w0 ds n e Γ) X:=fun x w s=>by
  obtain ⟨h1,l1,⟨a1,a2,a3,a4⟩,s1⟩:=tk _ s.heap
  exact k a1 a2 a3 x w ⟨s.defers,s.size,s.env,⟨h1,l1,a4,s1⟩,s.amb⟩
theorem s_fvarF (v:P4F) (t:V4F) (tk:Take Γ (optA v.2.2.1 t.2.2.1) Γ') (h1:v.1=t.1) (h2:v.2.1=t.2.1) (h3:v.2.2.2=t.2.2.2) (k:Le (St w0 ds n e (fvarA v t::Γ')) X):Le (St w0 ds n e Γ) X:=kF (fun h s=>by
  obtain ⟨h4,l1,a1,s1⟩:=tk h s
  exact ⟨h4,l1,⟨h1,h2,h3,a1⟩,s1⟩) k
theorem s_optN {a:Option Addr} (tk:Take Γ (optA a none) Γ') (k:a=none→Le (St w0 ds n e Γ') X):Le (St w0 ds n e Γ) X:=fun x w s=>by
  obtain ⟨h1,l1,a1,s1⟩:=tk _ s.heap
  exact k a1 x w ⟨s.defers,s.size,s.env,s1.mono (Hmin_le _ _),s.amb⟩
theorem s_optNF (k:Le (St w0 ds n e (optA none none::Γ)) X):Le (St w0 ds n e Γ) X:=kF (fun h s=>sat_free (A:=optA none none) rfl s) k
theorem s_optS {a:Option Addr} {l:List Int} (tk:Take Γ (optA a (some l)) Γ') (k:∀ b ao cap,a=some ⟨b,0,none⟩→Le (St w0 ds n e (cells b 0 [.slice ao l.length cap]::own 1 encU ao cap l::Γ')) X):Le (St w0 ds n e Γ) X:=s_vec tk k
theorem s_kept {a:Option Addr} {t:List Int × Int} (tk:Take Γ (keptA a t) Γ') (k:∀ b ao cap,a=some ⟨b,0,none⟩→Le (St w0 ds n e (cells b 0 [.slice ao t.1.length cap,.int .i64 t.2]::own 1 encU ao cap t.1::Γ')) X):Le (St w0 ds n e Γ) X:=fun x w s=>by
  obtain ⟨h1,l1,⟨b,ao,cap,ha,a1⟩,s1⟩:=tk _ s.heap
  exact k b ao cap ha x w ⟨s.defers,s.size,s.env,Bun.unfold ⟨h1,l1,a1,s1⟩,s.amb⟩
theorem s_keptF (b:Nat) (ao:Option Addr) (cap:Nat) (l:List Int) (z:Int) (tk:Takes Γ [cells b 0 [.slice ao l.length cap,.int .i64 z],own 1 encU ao cap l] Γ') (k:Le (St w0 ds n e (keptA (some ⟨b,0,none⟩) (l,z)::Γ')) X):Le (St w0 ds n e Γ) X:=kF (fun h s=>by
  obtain ⟨h1,l1,a1,s1⟩:=Bun.fold (tk h s)
  exact ⟨h1,l1,⟨b,ao,cap,rfl,a1⟩,s1⟩) k
end
/-- A thread's own epoch. -/
def pkN (t:Nat) (l:List Int):Nat:=t*281474976710656+(l.getD t 0).toNat
def flN (f n:Int):Int:=if f < 0 then n else f
theorem has_zero {l:List Int} (hl:CV l):hasE 0 l:=by
  have:=(g_rng hl.rng (by decide) (epT 0)).1
  show ((epC 0:Nat):Int)≤_
  rw [show epC 0=0 from by simp [epC]];exact this
theorem pk_lt {l:List Int} (hl:CV l) {t:Nat} (ht:t < 65535):pkN t l < 18446744073709551616:=by
  have:=g_rng hl.rng (by decide) t
  simp only [maxC] at this
  unfold pkN;omega
/-- A Read by thread t (its vector is l, n events stand ahead of it): what is kept behind it, and what it costs. -/
def rdV (t:Nat) (l:List Int) (n:Int) (v:V4F):V4F × Int :=
  match v.2.2.1 with
  | some s=>if s.getD t 0=l.getD t 0 then (v,0) else ((v.1,v.2.1,some (stL s t (l.getD t 0)),if hasE v.1 l then v.2.2.2 else flN v.2.2.2 n),0)
  | none=>if v.2.1=pkN t l then (v,0) else if hasE v.2.1 l then ((v.1,pkN t l,none,if hasE v.1 l then v.2.2.2 else flN v.2.2.2 n),0)
    else ((v.1,0,some (stL (stL [] (epT v.2.1) (epC v.2.1)) t (l.getD t 0)),if hasE v.1 l then v.2.2.2 else flN v.2.2.2 n),1)
def wrV (t:Nat) (l:List Int) (n:Int) (v:V4F):V4F × Int :=
  if v.1=pkN t l then (v,0) else
  match v.2.2.1 with
  | some s=>((pkN t l,v.2.1,none,if LeqL s l then (if hasE v.1 l∧hasE v.2.1 l then v.2.2.2 else flN v.2.2.2 n) else flN (if hasE v.1 l∧hasE v.2.1 l then v.2.2.2 else flN v.2.2.2 n) n),1)
  | none=>((pkN t l,v.2.1,none,if hasE v.1 l∧hasE v.2.1 l then v.2.2.2 else flN v.2.2.2 n),0)
theorem ethread_spec (e:Nat) (he:e < 18446744073709551616):Spec Try.prog 86 [.int .u64 ((e:Nat):Int)] [] (fun (_:Unit)=>.int .i64 ((epT e:Nat):Int)) (fun _=>True) (fun _=>[]):=by
 refine kP (n:=14) Try.func86 rfl rfl rfl ?_
 intro Γ w0
 simp only [argE,List.cons_append,List.nil_append,Nat.zero_add,Nat.reduceAdd]
 have het:=epT_lt e
 refine qG (qC (.q 0 (.done)) Kr ?_)
 refine qR rfl rfl rfl rfl (qS (qQ (qG (qC (.q 0 ((.l 1 [] (.q 2 (.q 3 (.q 4 (.q 5 (.q 6 (.q 7 (.q 8 (.done))))))))))) Kr ?_))))
 refine qK rfl rfl rfl rfl ?_
 have sp_1:=Vc.parts_spec e he
 refine qM rfl rfl rfl rfl rfl rfl Try.call101 (sp_1) Ts ?_
 rintro ⟨⟩ -
 try simp only [List.cons_append,List.nil_append]
 refine qV (qK rfl rfl rfl rfl (kW rfl rfl rfl rfl rfl (kW rfl rfl rfl rfl rfl (kW rfl rfl rfl rfl rfl (qR rfl rfl rfl rfl (qR rfl rfl rfl rfl (qR rfl rfl rfl rfl (qS ?_))))))))
 refine qW [3] (e':=[(3,_)]) rfl ?_
 refine qQ (qG (qC (.q 0 (.q 1 (.q 2 (.done)))) Kr ?_))
 refine qK rfl rfl rfl rfl (q_conv' rfl rfl rfl rfl υ'3 Try.underlying176 (by exact kG Om Om) ?_)
 refine qR rfl rfl rfl rfl (qS (qQ (qJ (cR rfl rfl (()) (by first | rfl | (first | rfl | (congr 1;done) | (congr 1 <;> first | rfl | omega | (simp;done) | (simp;omega)))) (by trivial) ?_))))
 exact Tf
theorem eclock_spec (e:Nat) (he:e < 18446744073709551616):Spec Try.prog 87 [.int .u64 ((e:Nat):Int)] [] (fun (_:Unit)=>.int .u64 ((epC e:Nat):Int)) (fun _=>True) (fun _=>[]):=by
 refine kP (n:=13) Try.func87 rfl rfl rfl ?_
 intro Γ w0
 simp only [argE,List.cons_append,List.nil_append,Nat.zero_add,Nat.reduceAdd]
 refine qG (qC (.q 0 (.done)) Kr ?_)
 refine qR rfl rfl rfl rfl (qS (qQ (qG (qC (.q 0 ((.l 1 [] (.q 2 (.q 3 (.q 4 (.q 5 (.q 6 (.q 7 (.q 8 (.done))))))))))) Kr ?_))))
 refine qK rfl rfl rfl rfl ?_
 have sp_1:=Vc.parts_spec e he
 refine qM rfl rfl rfl rfl rfl rfl Try.call101 (sp_1) Ts ?_
 rintro ⟨⟩ -
 try simp only [List.cons_append,List.nil_append]
 refine qV (qK rfl rfl rfl rfl (kW rfl rfl rfl rfl rfl (kW rfl rfl rfl rfl rfl (kW rfl rfl rfl rfl rfl (qR rfl rfl rfl rfl (qR rfl rfl rfl rfl (qR rfl rfl rfl rfl (qS ?_))))))))
 refine qW [4] (e':=[(4,_)]) rfl ?_
 refine qQ (qG (qC (.q 0 (.q 1 (.done))) Kr ?_))
 refine qK rfl rfl rfl rfl (qR rfl rfl rfl rfl (qS (qQ (qJ (cR rfl rfl (()) (by first | rfl | (first | rfl | (congr 1;done) | (congr 1 <;> first | rfl | omega | (simp;done) | (simp;omega)))) (by trivial) ?_)))))
 exact Tf
theorem cov_spec (b:Nat) (l:List Int) (ao:Option Addr) (n cap:Nat) (hn:l.length=n) (hl:CV l) (e:Nat) (he:e < 18446744073709551616):Spec Try.prog 84 [.int .u64 ((e:Nat):Int),.pointer (some ⟨b,0,none⟩)] [cells b 0 [.slice ao n cap],own 1 encU ao cap l] (fun (_:Unit)=>.bool (decide (hasE e l))) (fun _=>True) (fun _=>[cells b 0 [.slice ao n cap],own 1 encU ao cap l]):=by
 refine kP (n:=16) Try.func84 rfl rfl rfl ?_
 intro Γ w0
 simp only [argE,List.cons_append,List.nil_append,Nat.zero_add,Nat.reduceAdd]
 refine qG (qC (.q 0 (.done)) Kr ?_)
 refine qR rfl rfl rfl rfl (qS (qQ (qG ?_)))
 have hz0:=has_zero hl
 refine qC (.q 0 (.q 1 (.q 2 (.q 3 ((.l 4 [] (.q 5 (.q 6 ((.l 7 [] ((.l 8 [] (.q 9 (.q 10 (.q 11 (.done)))))))))))))))) Kr ?_
 refine qK rfl rfl rfl rfl (qN rfl rfl rfl rfl rfl (cS _ _ _ _) ?_)
 refine qK rfl rfl rfl rfl ?_
 refine cL 7 rfl (fun hz=>?_) (fun hz=>?_)
 ·
  refine qY rfl rfl rfl rfl (sZ rfl rfl rfl rfl ?_)
  refine qY rfl rfl rfl rfl (qY rfl rfl rfl rfl (sZ rfl rfl rfl rfl ?_))
  refine sZ rfl rfl rfl rfl ?_
  refine qY rfl rfl rfl rfl (kZ rfl rfl rfl rfl rfl (qR rfl rfl rfl rfl (qS (qW [4] (e':=[(4,_)]) rfl ?_))))
  refine qQ (qJ (cR rfl rfl (()) (by first | rfl | (congr 1;symm;rw [decide_eq_true_eq];have h9:e=0:=Om;rw [h9];exact hz0)) (by trivial) ?_))
  exact Tf
 refine qK rfl rfl rfl rfl ?_
 have sp_1:=eclock_spec e Om
 refine qM rfl rfl rfl rfl rfl rfl Try.call87 (sp_1) Ts ?_
 rintro ⟨⟩ -
 try simp only [List.cons_append,List.nil_append]
 refine qV (qK rfl rfl rfl rfl (qK rfl rfl rfl rfl ?_))
 have sp_2:=ethread_spec e Om
 refine qM rfl rfl rfl rfl rfl rfl Try.call86 (sp_2) Ts ?_
 rintro ⟨⟩ -
 try simp only [List.cons_append,List.nil_append]
 refine qV ?_
 have sp_3:=get_z b l ao n cap Ln ((epT e:Nat):Int) Om
 refine qM rfl rfl rfl rfl rfl rfl κ'48 (sp_3) Ts ?_
 rintro ⟨⟩ -
 try simp only [List.cons_append,List.nil_append]
 refine qV (qN rfl rfl rfl rfl rfl (b_leq _ _ _ _) ?_)
 refine kC rfl rfl rfl rfl rfl (qR rfl rfl rfl rfl (qS (qW [4] (e':=[(4,_)]) rfl ?_)))
 refine qQ (qJ (cR rfl rfl (()) (by first | rfl | (congr 1;symm;rw [decide_eq_true_eq];have h9:e=0:=Om;rw [h9];exact hz0)) (by trivial) ?_))
 exact Tf
theorem flagged_spec (vb of k vc:Nat) (va:Option Addr) (V:List P4F) (v:P4F) (hv:V[k]?=some v) (ha:va=some ⟨vb,of,none⟩) (n:Int):Spec Try.prog 85 [.pointer (some ⟨vb,of+k*(3+1),none⟩),.int .i64 n] [own 4 encF va vc V] (fun (_:Unit)=>.tuple #[]) (fun _=>True) (fun _=>[own 4 encF va vc (V.set k (v.1,v.2.1,v.2.2.1,flN v.2.2.2 n))]):=by
 refine kP (n:=13) Try.func85 rfl rfl rfl ?_
 intro Γ w0
 simp only [argE,List.cons_append,List.nil_append,Nat.zero_add,Nat.reduceAdd]
 refine qG (qC (.q 0 (.q 1 (.q 2 (.q 3 (.q 4 (.done)))))) Kr ?_)
 refine qK rfl rfl rfl rfl (qX rfl rfl rfl rfl (qL (k:=3) rfl rfl rfl rfl υ'88 rfl ζ'3 rfl ?_))
 refine kQ (v:=(.int .i64 v.2.2.2)) (j:=3) (k':=k) (enc:=encF) (off:=of) rfl rfl rfl rfl α'3 ha encF_len hv Tk (by first | rfl | exact (Nat.add_zero _).symm | omega) (by rfl) ?_
 refine qN rfl rfl rfl rfl rfl (sK _ _ _ _) ?_
 refine qS (qW [0,1,8] (e':=[(0,_),(1,_),(8,_)]) rfl ?_)
 refine qQ ?_
 refine qB rfl (fun hf=>?_) (fun hf=>?_)
 ·
  refine qC (.q 0 (.q 1 (.q 2 (.q 3 ((.l 4 [] (.done))))))) Kr ?_
  refine qK rfl rfl rfl rfl (qK rfl rfl rfl rfl (qX rfl rfl rfl rfl (qL (k:=3) rfl rfl rfl rfl υ'88 rfl ζ'3 rfl ?_)))
  refine kJ (j:=3) (k:=k) (q:=(v.1,v.2.1,v.2.2.1,n)) (enc:=encF) (off:=of) rfl rfl rfl rfl ζ'3 (us:=[_]) rfl rfl rfl ha encF_len hv Tk (by first | rfl | exact (Nat.add_zero _).symm | omega) (by first | decide | exact Nat.le_of_ble_eq_true rfl) (by rfl) ?_
  refine qV (qS (qW [] (e':=[]) rfl ?_))
  refine sR ?_
  rw [show (v.1,v.2.1,v.2.2.1,n)=(v.1,v.2.1,v.2.2.1,flN v.2.2.2 n) from by rw [flN,if_pos hf]]
  refine rR rfl (()) (by first | rfl | (first | rfl | (congr 1;done) | (congr 1 <;> first | rfl | omega | (simp;done) | (simp;omega)))) (by trivial) ?_
  exact Tf
 refine qF (sR ?_)
 rw [show V.set k (v.1,v.2.1,v.2.2.1,flN v.2.2.2 n)=V from by rw [flN,if_neg hf];exact sM hv]
 refine rR rfl (()) (by first | rfl | (first | rfl | (congr 1;done) | (congr 1 <;> first | rfl | omega | (simp;done) | (simp;omega)))) (by trivial) ?_
 exact Tf
end Go.Ab.Fa
set_option linter.unusedVariables false
set_option linter.unusedSimpArgs false
set_option maxRecDepth 100000
namespace Go.Ab.Fa
open Go Go.Proofs Go.Ab Go.Ab.Fe Go.Ab.Vc Go.Ab.Dj
theorem packs_spec (t:Nat) (l:List Int) (ht:t < 65535) (h1:1≤l.getD t 0) (h2:l.getD t 0≤maxC):Spec Try.prog 83 [.int .i64 ((t:Nat):Int),.int .u64 (l.getD t 0)] [] (fun (_:Unit)=>.tuple #[.int .u64 ((pkN t l:Nat):Int),.int .i64 0]) (fun _=>True) (fun _=>[]):=by
  obtain ⟨c,hc⟩:=Int.eq_ofNat_of_zero_le (show 0≤l.getD t 0 by omega)
  have hp:pkN t l=t*281474976710656+c:=by unfold pkN;rw [hc];rfl
  rw [hp,hc]
  simp only [maxC] at h2
  exact pack_spec t c ht Om
theorem cnew_spec:Spec Try.prog 29 [] [] (fun (r:Nat)=>.pointer (some ⟨r,0,none⟩)) (fun r=>True) (fun r=>[cells r 0 [.slice none 0 0]]):=by
 refine kP (n:=3) Try.func29 rfl rfl rfl ?_
 intro Γ w0
 simp only [argE,List.cons_append,List.nil_append,Nat.zero_add,Nat.reduceAdd]
 refine qG (qC (.q 0 (.done)) Kr ?_)
 refine qR rfl rfl rfl rfl (qS (qQ (qG (qC (.q 0 ((.l 1 [] (.q 2 (.done))))) Kr ?_))))
 refine cX rfl rfl rfl rfl (vs:=[_]) (kM υ'134 Try.zeroValue134 (ps:=[(0,1)]) ⟨rfl,ζ'50,trivial⟩ rfl) ?_
 refine sX rfl rfl rfl rfl (us:=[_]) rfl ?_
 intro b2
 refine qV (qR rfl rfl rfl rfl (qS (qQ (qJ (cR rfl rfl (b2) (by first | rfl | (first | rfl | (congr 1;done) | (congr 1 <;> first | rfl | omega | (simp;done) | (simp;omega)))) (by trivial) ?_)))))
 exact Tf
theorem read_some (db m1 tb tc t vb of k vc:Nat) (v0 v1 v3 v4 v5 v6:Value) (cost n:Int) (F1:Int→Option (Option Addr)) (ta va:Option Addr) (l:List Int) (V:List P4F) (w0_ r0:Nat) (so:Option Addr) (f0:Int) (hF:F1 ((t:Nat):Int)=some (some ⟨tb,0,none⟩)) (ht:t < 65535) (hl:CV l) (hl1:1≤l.getD t 0) (hc0:0≤cost∧cost≤1000000000000000) (hw0:w0_ < 18446744073709551616) (hr0:r0 < 18446744073709551616) (hv:V[k]?=some (w0_,r0,so,f0)) (ha:va=some ⟨vb,of,none⟩) (s:List Int) (hs:CV s):Spec Try.prog 51 [.pointer (some ⟨db,0,none⟩),.int .i64 ((t:Nat):Int),.pointer (some ⟨vb,of+k*(3+1),none⟩),.int .i64 n] [cells db 0 [v0,v1,.map (some m1),v3,v4,v5,v6,.int .i64 cost],mapO ekZ evA m1 F1,cells tb 0 [.slice ta l.length tc],own 1 encU ta tc l,own 4 encF va vc V,optA so (some s)] (fun (r:Option Addr)=>.tuple #[]) (fun r=>True) (fun r=>[cells db 0 [v0,v1,.map (some m1),v3,v4,v5,v6,.int .i64 (cost+(rdV t l n (w0_,r0,some s,f0)).2)],mapO ekZ evA m1 F1,cells tb 0 [.slice ta l.length tc],own 1 encU ta tc l,own 4 encF va vc (V.set k ((rdV t l n (w0_,r0,some s,f0)).1.1,(rdV t l n (w0_,r0,some s,f0)).1.2.1,r,(rdV t l n (w0_,r0,some s,f0)).1.2.2.2)),optA r (rdV t l n (w0_,r0,some s,f0)).1.2.2.1]):=by
 refine kP (n:=131) Try.func51 rfl rfl rfl ?_
 intro Γ w0
 simp only [argE,List.cons_append,List.nil_append,Nat.zero_add,Nat.reduceAdd]
 have hl2:=(g_rng hl.rng (by decide) t).2
 have hll:=hl.len
 have hkV:=(List.getElem?_eq_some_iff.1 hv).1
 refine s_optS (a:=so) (l:=s) Tk fun sb sa sc hso=>?_
 subst hso
 try simp only [List.cons_append,List.nil_append]
 have hsl:=hs.len
 refine qG (qC (.q 0 (.q 1 (.q 2 (.q 3 (.q 4 (.q 5 (.q 6 (.done)))))))) Kr ?_)
 refine qK rfl rfl rfl rfl (qX rfl rfl rfl rfl (qL (k:=2) rfl rfl rfl rfl υ'81 rfl ζ'77 rfl ?_))
 refine qP (j:=2) rfl rfl rfl rfl α'77 Tk Az (by rfl) ?_
 refine qK rfl rfl rfl rfl (sL (ek:=ekZ) (ev1:=evA) (F:=F1) (m:=m1) (k:=((t:Nat):Int)) none rfl rfl rfl rfl rfl υ'77 (cW υ'3) ω'86 Tk ?_)
 refine kH 16 rfl (v':=.pointer (some ⟨tb,0,none⟩)) (by rw [hF];rfl) ?_
 refine qR rfl rfl rfl rfl (qS (qW [0,1,2,3,8] (e':=[(0,_),(1,_),(2,_),(3,_),(8,_)]) rfl ?_))
 refine qQ (qG (qC (.q 0 (.q 1 (.q 2 ((.l 3 [] ((.l 4 [] (.q 5 (.q 6 (.q 7 (.q 8 (.q 9 (.done))))))))))))) Kr ?_))
 refine qK rfl rfl rfl rfl (qK rfl rfl rfl rfl (qK rfl rfl rfl rfl ?_))
 have sp_1:=Vc.get_spec tb l ta l.length tc Ln t
 refine qM rfl rfl rfl rfl rfl rfl κ'48 (sp_1) Ts ?_
 rintro ⟨⟩ -
 try simp only [List.cons_append,List.nil_append]
 refine qV ?_
 have sp_2:=packs_spec t l ht hl1 hl2
 refine qM rfl rfl rfl rfl rfl rfl κ'83 (sp_2) Ts ?_
 rintro ⟨⟩ -
 try simp only [List.cons_append,List.nil_append]
 refine qV (qK rfl rfl rfl rfl (kW rfl rfl rfl rfl rfl (kW rfl rfl rfl rfl rfl (qR rfl rfl rfl rfl (qR rfl rfl rfl rfl (qS (qW [0,1,2,3,8,9] (e':=[(0,_),(1,_),(2,_),(3,_),(8,_),(9,_)]) rfl ?_)))))))
 refine qQ (qG (qG (qC (.q 0 (.q 1 (.q 2 (.q 3 (.q 4 (.q 5 (.q 6 (.q 7 (.q 8 (.q 9 (.q 10 ((.l 11 [] (.q 12 (.q 13 ((.l 14 [] (.q 15 (.q 16 (.q 17 (.q 18 (.q 19 (.q 20 (.q 21 (.q 22 (.q 23 (.q 24 (.q 25 (.q 26 (.q 27 (.q 28 (.q 29 (.q 30 (.q 31 (.done))))))))))))))))))))))))))))))))))) Kr ?_)))
 refine qK rfl rfl rfl rfl (qX rfl rfl rfl rfl (qL (k:=2) rfl rfl rfl rfl υ'88 rfl ζ'86 rfl ?_))
 refine kQ (v:=(.pointer (some ⟨sb,0,none⟩))) (j:=2) (k':=k) (enc:=encF) (off:=of) rfl rfl rfl rfl α'86 ha encF_len hv Tk (by first | rfl | exact (Nat.add_zero _).symm | omega) (by rfl) ?_
 refine q_ne_nil rfl rfl rfl rfl υ'86 ?_
 refine kH 29 rfl (v':=.bool true) rfl ?_
 refine qK rfl rfl rfl rfl (qK rfl rfl rfl rfl (qX rfl rfl rfl rfl (qL (k:=2) rfl rfl rfl rfl υ'88 rfl ζ'86 rfl ?_)))
 refine kQ (v:=(.pointer (some ⟨sb,0,none⟩))) (j:=2) (k':=k) (enc:=encF) (off:=of) rfl rfl rfl rfl α'86 ha encF_len hv Tk (by first | rfl | exact (Nat.add_zero _).symm | omega) (by rfl) ?_
 refine qK rfl rfl rfl rfl ?_
 have sp_3:=Vc.get_spec sb s sa s.length sc Ln t
 refine qM rfl rfl rfl rfl rfl rfl κ'48 (sp_3) Ts ?_
 rintro ⟨⟩ -
 try simp only [List.cons_append,List.nil_append]
 refine qV (qK rfl rfl rfl rfl (qK rfl rfl rfl rfl ?_))
 have sp_4:=Vc.get_spec tb l ta l.length tc Ln t
 refine qM rfl rfl rfl rfl rfl rfl κ'48 (sp_4) Ts ?_
 rintro ⟨⟩ -
 try simp only [List.cons_append,List.nil_append]
 refine qV (qN rfl rfl rfl rfl rfl (cS _ _ _ _) ?_)
 refine kZ rfl rfl rfl rfl rfl (qK rfl rfl rfl rfl ?_)
 refine cL 42 rfl (fun hsame=>?_) (fun hsame=>?_)
 ·
  refine qY rfl rfl rfl rfl (qY rfl rfl rfl rfl (qY rfl rfl rfl rfl (qY rfl rfl rfl rfl (qY rfl rfl rfl rfl (qY rfl rfl rfl rfl (qY rfl rfl rfl rfl (qY rfl rfl rfl rfl (qY rfl rfl rfl rfl ?_))))))))
  refine qY rfl rfl rfl rfl (qY rfl rfl rfl rfl (qY rfl rfl rfl rfl (qY rfl rfl rfl rfl (kZ rfl rfl rfl rfl rfl (qS (qW [0,1,2,3,8,9,56] (e':=[(0,_),(1,_),(2,_),(3,_),(8,_),(9,_),(56,_)]) rfl ?_))))))
  refine qQ (cN rfl ?_)
  refine qJ (qD ?_)
  have hrv:rdV t l n (w0_,r0,some s,f0)=((w0_,r0,some s,f0),0):=by
    unfold rdV
    simp only
    rw [if_pos hsame]
  rw [hrv]
  refine s_vecF sb sa sc s Ts ?_
  refine s_optF Td ?_
  refine rR rfl (some ⟨sb,0,none⟩) (by first | rfl | (first | rfl | (congr 1;done) | (congr 1 <;> first | rfl | omega | (simp;done) | (simp;omega)))) (by trivial) ?_
  dsimp only
  (try simp only [List.set_set])
  (try rw [sM hv])
  (try rw [Int.add_zero])
  exact Tf
 refine qK rfl rfl rfl rfl (qX rfl rfl rfl rfl (qL (k:=2) rfl rfl rfl rfl υ'88 rfl ζ'86 rfl ?_))
 refine kQ (v:=(.pointer (some ⟨sb,0,none⟩))) (j:=2) (k':=k) (enc:=encF) (off:=of) rfl rfl rfl rfl α'86 ha encF_len hv Tk (by first | rfl | exact (Nat.add_zero _).symm | omega) (by rfl) ?_
 refine cY rfl rfl rfl rfl υ'86 ?_
 refine kH 47 rfl (v':=.bool false) rfl ?_
 refine qK rfl rfl rfl rfl (qY rfl rfl rfl rfl (qY rfl rfl rfl rfl (qY rfl rfl rfl rfl (qY rfl rfl rfl rfl (qY rfl rfl rfl rfl (qY rfl rfl rfl rfl (kC rfl rfl rfl rfl rfl (kC rfl rfl rfl rfl rfl ?_))))))))
 refine qS (qW [0,1,2,3,8,9,56] (e':=[(0,_),(1,_),(2,_),(3,_),(8,_),(9,_),(56,_)]) rfl ?_)
 refine qQ (kB rfl ?_)
 refine qF (qQ (qG (qG (qC (.q 0 (.q 1 (.q 2 (.q 3 (.q 4 ((.l 5 [] (.q 6 (.done))))))))) Kr ?_))))
 refine qK rfl rfl rfl rfl (qX rfl rfl rfl rfl (qL (k:=0) rfl rfl rfl rfl υ'88 rfl ζ'49 rfl ?_))
 refine kQ (v:=(.int .u64 ((w0_:Nat):Int))) (j:=0) (k':=k) (enc:=encF) (off:=of) rfl rfl rfl rfl α'49 ha encF_len hv Tk (by first | rfl | exact (Nat.add_zero _).symm | omega) (by rfl) ?_
 refine qK rfl rfl rfl rfl ?_
 have sp_5:=cov_spec tb l ta l.length tc Ln hl w0_ (by first | assumption | omega)
 refine qM rfl rfl rfl rfl rfl rfl κ'84 (sp_5) Ts ?_
 rintro ⟨⟩ -
 try simp only [List.cons_append,List.nil_append]
 refine qV (rL rfl rfl rfl rfl ?_)
 refine qS (qW [0,1,2,3,8,9,63] (e':=[(0,_),(1,_),(2,_),(3,_),(8,_),(9,_),(63,_)]) rfl ?_)
 refine qQ ?_
 refine c_cond_np rfl (fun hcw=>?_) (fun hcw=>?_)
 ·
  refine qC (.q 0 (.q 1 ((.l 2 [] (.done))))) Kr ?_
  refine qK rfl rfl rfl rfl (qK rfl rfl rfl rfl ?_)
  have sp_7:=flagged_spec vb of k vc va V (w0_,r0,some ⟨sb,0,none⟩,f0) hv ha n
  refine qM rfl rfl rfl rfl rfl rfl κ'85 (sp_7) Ts ?_
  rintro ⟨⟩ -
  have hv_6:(V.set k (w0_,r0,some ⟨sb,0,none⟩,flN f0 n))[k]?=some (w0_,r0,some ⟨sb,0,none⟩,flN f0 n):=List.getElem?_set_self (by first | exact (List.getElem?_eq_some_iff.1 hv).1 | (simp only [List.length_set];exact (List.getElem?_eq_some_iff.1 hv).1))
  try simp only [List.cons_append,List.nil_append]
  refine qV (qS (qW [0,1,2,8,9] (e':=[(0,_),(1,_),(2,_),(8,_),(9,_)]) rfl ?_))
  refine qQ (kS (qG (qC (.q 0 (.q 1 (.q 2 (.q 3 (.q 4 (.q 5 (.done))))))) Kr ?_)))
  refine qK rfl rfl rfl rfl (qX rfl rfl rfl rfl (qL (k:=2) rfl rfl rfl rfl υ'88 rfl ζ'86 rfl ?_))
  refine kQ (v:=(.pointer (some ⟨sb,0,none⟩))) (j:=2) (k':=k) (enc:=encF) (off:=of) rfl rfl rfl rfl α'86 ha encF_len hv_6 Tk (by first | rfl | exact (Nat.add_zero _).symm | omega) (by rfl) ?_
  refine q_ne_nil rfl rfl rfl rfl υ'86 ?_
  refine kH 110 rfl (v':=.bool true) rfl ?_
  refine qR rfl rfl rfl rfl (qS (qW [0,1,2,8,9,105] (e':=[(0,_),(1,_),(2,_),(8,_),(9,_),(105,_)]) rfl ?_))
  refine qQ (cN rfl ?_)
  refine kX rfl (.q 0 (.q 1 (.q 2 (.q 3 (.q 4 (.q 5 (.q 6 ((.l 7 [3] ((.l 8 [] (.done)))))))))))) Kr ?_
  refine qK rfl rfl rfl rfl (qX rfl rfl rfl rfl (qL (k:=2) rfl rfl rfl rfl υ'88 rfl ζ'86 rfl ?_))
  refine kQ (v:=(.pointer (some ⟨sb,0,none⟩))) (j:=2) (k':=k) (enc:=encF) (off:=of) rfl rfl rfl rfl α'86 ha encF_len hv_6 Tk (by first | rfl | exact (Nat.add_zero _).symm | omega) (by rfl) ?_
  refine qK rfl rfl rfl rfl (qK rfl rfl rfl rfl (qK rfl rfl rfl rfl ?_))
  have sp_8:=Vc.get_spec tb l ta l.length tc Ln t
  refine qM rfl rfl rfl rfl rfl rfl κ'48 (sp_8) Ts ?_
  rintro ⟨⟩ -
  try simp only [List.cons_append,List.nil_append]
  refine ag_load_O (v:=(.pointer (some ⟨sb,0,none⟩))) (j:=2) (k':=k) (enc:=encF) (off:=of) rfl rfl rfl α'86 ha encF_len hv_6 Tk (by first | rfl | exact (Nat.add_zero _).symm | omega) (by rfl) ?_
  refine qV ?_
  have sp_9:=Vc.set_spec sb s sa s.length sc Ln hs t Om (l.getD t 0) Om (by exact hl2)
  refine qM rfl rfl rfl rfl rfl rfl κ'30 (sp_9) Ts ?_
  rintro ⟨za,zc⟩ -
  try simp only [List.cons_append,List.nil_append]
  refine qV (qS (qW [] (e':=[]) rfl ?_))
  refine kK (sR ?_)
  have hrv:rdV t l n (w0_,r0,some s,f0)=((w0_,r0,some (stL s t (l.getD t 0)),flN f0 n),0):=by
    unfold rdV
    simp only
    rw [if_neg hsame,if_neg hcw]
  rw [hrv]
  refine s_vecF sb za zc (stL s t (l.getD t 0)) Ts ?_
  refine s_optF Td ?_
  refine rR rfl (some ⟨sb,0,none⟩) (by first | rfl | (first | rfl | (congr 1;done) | (congr 1 <;> first | rfl | omega | (simp;done) | (simp;omega)))) (by trivial) ?_
  dsimp only
  (try simp only [List.set_set])
  (try rw [sM hv])
  (try rw [Int.add_zero])
  exact Tf
 refine qF (qQ (kS (qG (qC (.q 0 (.q 1 (.q 2 (.q 3 (.q 4 (.q 5 (.done))))))) Kr ?_))))
 refine qK rfl rfl rfl rfl (qX rfl rfl rfl rfl (qL (k:=2) rfl rfl rfl rfl υ'88 rfl ζ'86 rfl ?_))
 refine kQ (v:=(.pointer (some ⟨sb,0,none⟩))) (j:=2) (k':=k) (enc:=encF) (off:=of) rfl rfl rfl rfl α'86 ha encF_len hv Tk (by first | rfl | exact (Nat.add_zero _).symm | omega) (by rfl) ?_
 refine q_ne_nil rfl rfl rfl rfl υ'86 ?_
 refine kH 110 rfl (v':=.bool true) rfl ?_
 refine qR rfl rfl rfl rfl (qS (qW [0,1,2,8,9,105] (e':=[(0,_),(1,_),(2,_),(8,_),(9,_),(105,_)]) rfl ?_))
 refine qQ (cN rfl ?_)
 refine kX rfl (.q 0 (.q 1 (.q 2 (.q 3 (.q 4 (.q 5 (.q 6 ((.l 7 [3] ((.l 8 [] (.done)))))))))))) Kr ?_
 refine qK rfl rfl rfl rfl (qX rfl rfl rfl rfl (qL (k:=2) rfl rfl rfl rfl υ'88 rfl ζ'86 rfl ?_))
 refine kQ (v:=(.pointer (some ⟨sb,0,none⟩))) (j:=2) (k':=k) (enc:=encF) (off:=of) rfl rfl rfl rfl α'86 ha encF_len hv Tk (by first | rfl | exact (Nat.add_zero _).symm | omega) (by rfl) ?_
 refine qK rfl rfl rfl rfl (qK rfl rfl rfl rfl (qK rfl rfl rfl rfl ?_))
 have sp_10:=Vc.get_spec tb l ta l.length tc Ln t
 refine qM rfl rfl rfl rfl rfl rfl κ'48 (sp_10) Ts ?_
 rintro ⟨⟩ -
 try simp only [List.cons_append,List.nil_append]
 refine ag_load_O (v:=(.pointer (some ⟨sb,0,none⟩))) (j:=2) (k':=k) (enc:=encF) (off:=of) rfl rfl rfl α'86 ha encF_len hv Tk (by first | rfl | exact (Nat.add_zero _).symm | omega) (by rfl) ?_
 refine qV ?_
 have sp_11:=Vc.set_spec sb s sa s.length sc Ln hs t Om (l.getD t 0) Om (by exact hl2)
 refine qM rfl rfl rfl rfl rfl rfl κ'30 (sp_11) Ts ?_
 rintro ⟨za,zc⟩ -
 try simp only [List.cons_append,List.nil_append]
 refine qV (qS (qW [] (e':=[]) rfl ?_))
 refine kK (sR ?_)
 have hrv:rdV t l n (w0_,r0,some s,f0)=((w0_,r0,some (stL s t (l.getD t 0)),f0),0):=by
   unfold rdV
   simp only
   rw [if_neg hsame,if_pos hcw]
 rw [hrv]
 refine s_vecF sb za zc (stL s t (l.getD t 0)) Ts ?_
 refine s_optF Td ?_
 refine rR rfl (some ⟨sb,0,none⟩) (by first | rfl | (first | rfl | (congr 1;done) | (congr 1 <;> first | rfl | omega | (simp;done) | (simp;omega)))) (by trivial) ?_
 dsimp only
 (try simp only [List.set_set])
 (try rw [sM hv])
 (try rw [Int.add_zero])
 exact Tf
theorem read_none (db m1 tb tc t vb of k vc:Nat) (v0 v1 v3 v4 v5 v6:Value) (cost n:Int) (F1:Int→Option (Option Addr)) (ta va:Option Addr) (l:List Int) (V:List P4F) (w0_ r0:Nat) (so:Option Addr) (f0:Int) (hF:F1 ((t:Nat):Int)=some (some ⟨tb,0,none⟩)) (ht:t < 65535) (hl:CV l) (hl1:1≤l.getD t 0) (hc0:0≤cost∧cost≤1000000000000000) (hw0:w0_ < 18446744073709551616) (hr0:r0 < 18446744073709551616) (hv:V[k]?=some (w0_,r0,so,f0)) (ha:va=some ⟨vb,of,none⟩):Spec Try.prog 51 [.pointer (some ⟨db,0,none⟩),.int .i64 ((t:Nat):Int),.pointer (some ⟨vb,of+k*(3+1),none⟩),.int .i64 n] [cells db 0 [v0,v1,.map (some m1),v3,v4,v5,v6,.int .i64 cost],mapO ekZ evA m1 F1,cells tb 0 [.slice ta l.length tc],own 1 encU ta tc l,own 4 encF va vc V,optA so none] (fun (r:Option Addr)=>.tuple #[]) (fun r=>True) (fun r=>[cells db 0 [v0,v1,.map (some m1),v3,v4,v5,v6,.int .i64 (cost+(rdV t l n (w0_,r0,none,f0)).2)],mapO ekZ evA m1 F1,cells tb 0 [.slice ta l.length tc],own 1 encU ta tc l,own 4 encF va vc (V.set k ((rdV t l n (w0_,r0,none,f0)).1.1,(rdV t l n (w0_,r0,none,f0)).1.2.1,r,(rdV t l n (w0_,r0,none,f0)).1.2.2.2)),optA r (rdV t l n (w0_,r0,none,f0)).1.2.2.1]):=by
 refine kP (n:=131) Try.func51 rfl rfl rfl ?_
 intro Γ w0
 simp only [argE,List.cons_append,List.nil_append,Nat.zero_add,Nat.reduceAdd]
 have hl2:=(g_rng hl.rng (by decide) t).2
 have hll:=hl.len
 have hkV:=(List.getElem?_eq_some_iff.1 hv).1
 refine s_optN (a:=so) Tk fun hso=>?_
 subst hso
 have het:=epT_lt r0
 refine qG (qC (.q 0 (.q 1 (.q 2 (.q 3 (.q 4 (.q 5 (.q 6 (.done)))))))) Kr ?_)
 refine qK rfl rfl rfl rfl (qX rfl rfl rfl rfl (qL (k:=2) rfl rfl rfl rfl υ'81 rfl ζ'77 rfl ?_))
 refine qP (j:=2) rfl rfl rfl rfl α'77 Tk Az (by rfl) ?_
 refine qK rfl rfl rfl rfl (sL (ek:=ekZ) (ev1:=evA) (F:=F1) (m:=m1) (k:=((t:Nat):Int)) none rfl rfl rfl rfl rfl υ'77 (cW υ'3) ω'86 Tk ?_)
 refine kH 16 rfl (v':=.pointer (some ⟨tb,0,none⟩)) (by rw [hF];rfl) ?_
 refine qR rfl rfl rfl rfl (qS (qW [0,1,2,3,8] (e':=[(0,_),(1,_),(2,_),(3,_),(8,_)]) rfl ?_))
 refine qQ (qG (qC (.q 0 (.q 1 (.q 2 ((.l 3 [] ((.l 4 [] (.q 5 (.q 6 (.q 7 (.q 8 (.q 9 (.done))))))))))))) Kr ?_))
 refine qK rfl rfl rfl rfl (qK rfl rfl rfl rfl (qK rfl rfl rfl rfl ?_))
 have sp_1:=Vc.get_spec tb l ta l.length tc Ln t
 refine qM rfl rfl rfl rfl rfl rfl κ'48 (sp_1) Ts ?_
 rintro ⟨⟩ -
 try simp only [List.cons_append,List.nil_append]
 refine qV ?_
 have sp_2:=packs_spec t l ht hl1 hl2
 refine qM rfl rfl rfl rfl rfl rfl κ'83 (sp_2) Ts ?_
 rintro ⟨⟩ -
 try simp only [List.cons_append,List.nil_append]
 refine qV (qK rfl rfl rfl rfl (kW rfl rfl rfl rfl rfl (kW rfl rfl rfl rfl rfl (qR rfl rfl rfl rfl (qR rfl rfl rfl rfl (qS (qW [0,1,2,3,8,9] (e':=[(0,_),(1,_),(2,_),(3,_),(8,_),(9,_)]) rfl ?_)))))))
 refine qQ (qG (qG (qC (.q 0 (.q 1 (.q 2 (.q 3 (.q 4 (.q 5 (.q 6 (.q 7 (.q 8 (.q 9 (.q 10 ((.l 11 [] (.q 12 (.q 13 ((.l 14 [] (.q 15 (.q 16 (.q 17 (.q 18 (.q 19 (.q 20 (.q 21 (.q 22 (.q 23 (.q 24 (.q 25 (.q 26 (.q 27 (.q 28 (.q 29 (.q 30 (.q 31 (.done))))))))))))))))))))))))))))))))))) Kr ?_)))
 refine qK rfl rfl rfl rfl (qX rfl rfl rfl rfl (qL (k:=2) rfl rfl rfl rfl υ'88 rfl ζ'86 rfl ?_))
 refine kQ (v:=(.pointer none)) (j:=2) (k':=k) (enc:=encF) (off:=of) rfl rfl rfl rfl α'86 ha encF_len hv Tk (by first | rfl | exact (Nat.add_zero _).symm | omega) (by rfl) ?_
 refine q_ne_nil rfl rfl rfl rfl υ'86 ?_
 refine kH 29 rfl (v':=.bool false) rfl ?_
 refine qK rfl rfl rfl rfl (qY rfl rfl rfl rfl (qY rfl rfl rfl rfl (qY rfl rfl rfl rfl (qY rfl rfl rfl rfl (qY rfl rfl rfl rfl (sZ rfl rfl rfl rfl ?_))))))
 refine qY rfl rfl rfl rfl (qY rfl rfl rfl rfl (sZ rfl rfl rfl rfl ?_))
 refine qY rfl rfl rfl rfl (kC rfl rfl rfl rfl rfl (qK rfl rfl rfl rfl (qK rfl rfl rfl rfl (qX rfl rfl rfl rfl (qL (k:=2) rfl rfl rfl rfl υ'88 rfl ζ'86 rfl ?_)))))
 refine kQ (v:=(.pointer none)) (j:=2) (k':=k) (enc:=encF) (off:=of) rfl rfl rfl rfl α'86 ha encF_len hv Tk (by first | rfl | exact (Nat.add_zero _).symm | omega) (by rfl) ?_
 refine cY rfl rfl rfl rfl υ'86 ?_
 refine kH 47 rfl (v':=.bool true) rfl ?_
 refine qK rfl rfl rfl rfl (qK rfl rfl rfl rfl (qX rfl rfl rfl rfl (qL (k:=1) rfl rfl rfl rfl υ'88 rfl ζ'49 rfl ?_)))
 refine kQ (v:=(.int .u64 ((r0:Nat):Int))) (j:=1) (k':=k) (enc:=encF) (off:=of) rfl rfl rfl rfl α'49 ha encF_len hv Tk (by first | rfl | exact (Nat.add_zero _).symm | omega) (by rfl) ?_
 refine qK rfl rfl rfl rfl (qN rfl rfl rfl rfl rfl (cS _ _ _ _) ?_)
 refine kZ rfl rfl rfl rfl rfl (kC rfl rfl rfl rfl rfl (qS (qW [0,1,2,3,8,9,56] (e':=[(0,_),(1,_),(2,_),(3,_),(8,_),(9,_),(56,_)]) rfl ?_)))
 refine qQ ?_
 refine qB rfl (fun hr=>?_) (fun hr=>?_)
 ·
  have hr:r0=pkN t l:=by omega
  refine qJ (qD ?_)
  have hrv:rdV t l n (w0_,r0,none,f0)=((w0_,r0,none,f0),0):=by
    unfold rdV
    simp only
    rw [if_pos hr]
  rw [hrv]
  refine s_optNF ?_
  refine rR rfl (none) (by first | rfl | (first | rfl | (congr 1;done) | (congr 1 <;> first | rfl | omega | (simp;done) | (simp;omega)))) (by trivial) ?_
  dsimp only
  (try simp only [List.set_set])
  (try rw [sM hv])
  (try rw [Int.add_zero])
  exact Tf
 have hr:¬ r0=pkN t l:=by omega
 refine qF (qQ (qG (qG (qC (.q 0 (.q 1 (.q 2 (.q 3 (.q 4 ((.l 5 [] (.q 6 (.done))))))))) Kr ?_))))
 refine qK rfl rfl rfl rfl (qX rfl rfl rfl rfl (qL (k:=0) rfl rfl rfl rfl υ'88 rfl ζ'49 rfl ?_))
 refine kQ (v:=(.int .u64 ((w0_:Nat):Int))) (j:=0) (k':=k) (enc:=encF) (off:=of) rfl rfl rfl rfl α'49 ha encF_len hv Tk (by first | rfl | exact (Nat.add_zero _).symm | omega) (by rfl) ?_
 refine qK rfl rfl rfl rfl ?_
 have sp_3:=cov_spec tb l ta l.length tc Ln hl w0_ (by first | assumption | omega)
 refine qM rfl rfl rfl rfl rfl rfl κ'84 (sp_3) Ts ?_
 rintro ⟨⟩ -
 try simp only [List.cons_append,List.nil_append]
 refine qV (rL rfl rfl rfl rfl ?_)
 refine qS (qW [0,1,2,3,8,9,63] (e':=[(0,_),(1,_),(2,_),(3,_),(8,_),(9,_),(63,_)]) rfl ?_)
 refine qQ ?_
 refine c_cond_np rfl (fun hcw=>?_) (fun hcw=>?_)
 ·
  refine qC (.q 0 (.q 1 ((.l 2 [] (.done))))) Kr ?_
  refine qK rfl rfl rfl rfl (qK rfl rfl rfl rfl ?_)
  have sp_5:=flagged_spec vb of k vc va V (w0_,r0,none,f0) hv ha n
  refine qM rfl rfl rfl rfl rfl rfl κ'85 (sp_5) Ts ?_
  rintro ⟨⟩ -
  have hv_4:(V.set k (w0_,r0,none,flN f0 n))[k]?=some (w0_,r0,none,flN f0 n):=List.getElem?_set_self (by first | exact (List.getElem?_eq_some_iff.1 hv).1 | (simp only [List.length_set];exact (List.getElem?_eq_some_iff.1 hv).1))
  try simp only [List.cons_append,List.nil_append]
  refine qV (qS (qW [0,1,2,8,9] (e':=[(0,_),(1,_),(2,_),(8,_),(9,_)]) rfl ?_))
  refine qQ (kS (qG (qC (.q 0 (.q 1 (.q 2 (.q 3 (.q 4 (.q 5 (.done))))))) Kr ?_)))
  refine qK rfl rfl rfl rfl (qX rfl rfl rfl rfl (qL (k:=2) rfl rfl rfl rfl υ'88 rfl ζ'86 rfl ?_))
  refine kQ (v:=(.pointer none)) (j:=2) (k':=k) (enc:=encF) (off:=of) rfl rfl rfl rfl α'86 ha encF_len hv_4 Tk (by first | rfl | exact (Nat.add_zero _).symm | omega) (by rfl) ?_
  refine q_ne_nil rfl rfl rfl rfl υ'86 ?_
  refine kH 110 rfl (v':=.bool false) rfl ?_
  refine qR rfl rfl rfl rfl (qS (qW [0,1,2,8,9,105] (e':=[(0,_),(1,_),(2,_),(8,_),(9,_),(105,_)]) rfl ?_))
  refine qQ (kB rfl ?_)
  refine qG (qC (.q 0 (.q 1 (.q 2 (.q 3 (.q 4 ((.l 5 [] (.q 6 (.done))))))))) Kr ?_)
  refine qK rfl rfl rfl rfl (qX rfl rfl rfl rfl (qL (k:=1) rfl rfl rfl rfl υ'88 rfl ζ'49 rfl ?_))
  refine kQ (v:=(.int .u64 ((r0:Nat):Int))) (j:=1) (k':=k) (enc:=encF) (off:=of) rfl rfl rfl rfl α'49 ha encF_len hv_4 Tk (by first | rfl | exact (Nat.add_zero _).symm | omega) (by rfl) ?_
  refine qK rfl rfl rfl rfl ?_
  have sp_6:=cov_spec tb l ta l.length tc Ln hl r0 (by first | assumption | omega)
  refine qM rfl rfl rfl rfl rfl rfl κ'84 (sp_6) Ts ?_
  rintro ⟨⟩ -
  try simp only [List.cons_append,List.nil_append]
  refine qV (qR rfl rfl rfl rfl (qS (qW [0,1,2,8,9,120] (e':=[(0,_),(1,_),(2,_),(8,_),(9,_),(120,_)]) rfl ?_)))
  refine qQ ?_
  refine qB rfl (fun hcr=>?_) (fun hcr=>?_)
  ·
   refine qC (.q 0 (.q 1 (.q 2 (.q 3 ((.l 4 [] (.done))))))) Kr ?_
   refine qK rfl rfl rfl rfl (qK rfl rfl rfl rfl (qX rfl rfl rfl rfl (qL (k:=1) rfl rfl rfl rfl υ'88 rfl ζ'49 rfl ?_)))
   refine kJ (j:=1) (k:=k) (q:=(w0_,pkN t l,none,flN f0 n)) (enc:=encF) (off:=of) rfl rfl rfl rfl ζ'49 (us:=[_]) rfl rfl rfl ha encF_len hv_4 Tk (by first | rfl | exact (Nat.add_zero _).symm | omega) (by first | decide | exact Nat.le_of_ble_eq_true rfl) (by rfl) ?_
   refine qV ?_
   have hv_r:((V.set k (w0_,r0,none,flN f0 n)).set k (w0_,pkN t l,none,flN f0 n))[k]?=some (w0_,pkN t l,none,flN f0 n):=List.getElem?_set_self (by first | exact hkV | (simp only [List.length_set];exact hkV))
   refine qS (qW [] (e':=[]) rfl ?_)
   refine kK (sR ?_)
   have hrv:rdV t l n (w0_,r0,none,f0)=((w0_,pkN t l,none,flN f0 n),0):=by
     unfold rdV
     simp only
     rw [if_neg hr,if_pos hcr,if_neg hcw]
   rw [hrv]
   refine s_optNF ?_
   refine rR rfl (none) (by first | rfl | (first | rfl | (congr 1;done) | (congr 1 <;> first | rfl | omega | (simp;done) | (simp;omega)))) (by trivial) ?_
   dsimp only
   (try simp only [List.set_set])
   (try rw [sM hv])
   (try rw [Int.add_zero])
   exact Tf
  refine qG (qC (.q 0 ((.l 1 [] (.q 2 (.q 3 ((.l 4 [] (.done)))))))) Kr ?_)
  refine qK rfl rfl rfl rfl ?_
  have sp_7:=cnew_spec
  refine qM rfl rfl rfl rfl rfl rfl κ'29 (sp_7) Ts ?_
  rintro nb -
  try simp only [List.cons_append,List.nil_append]
  refine qV (qX rfl rfl rfl rfl (qL (k:=2) rfl rfl rfl rfl υ'88 rfl ζ'86 rfl ?_))
  refine kJ (j:=2) (k:=k) (q:=(w0_,r0,some ⟨nb,0,none⟩,flN f0 n)) (enc:=encF) (off:=of) rfl rfl rfl rfl ζ'86 (us:=[_]) rfl rfl rfl ha encF_len hv_4 Tk (by first | rfl | exact (Nat.add_zero _).symm | omega) (by first | decide | exact Nat.le_of_ble_eq_true rfl) (by rfl) ?_
  refine qV ?_
  have hv_s:((V.set k (w0_,r0,none,flN f0 n)).set k (w0_,r0,some ⟨nb,0,none⟩,flN f0 n))[k]?=some (w0_,r0,some ⟨nb,0,none⟩,flN f0 n):=List.getElem?_set_self (by first | exact hkV | (simp only [List.length_set];exact hkV))
  refine qS (kF (fun _ h=>cJ (sz:=1) (enc:=encU) h) ?_)
  refine qW [0,1,2,8] (e':=[(0,_),(1,_),(2,_),(8,_)]) rfl ?_
  refine qQ (qG ?_)
  have hec:(epC r0:Int)≤maxC:=by
    unfold epC;split
    · simp only [maxC];omega
    · decide
  refine kX rfl (.q 0 (.q 1 (.q 2 (.q 3 (.q 4 (.q 5 (.q 6 (.q 7 (.q 9 (.q 10 (.q 11 (.q 12 ((.l 8 [3,12] ((.l 13 [3] ((.l 14 [] (.done))))))))))))))))))) Kr ?_
  refine qK rfl rfl rfl rfl (qX rfl rfl rfl rfl (qL (k:=2) rfl rfl rfl rfl υ'88 rfl ζ'86 rfl ?_))
  refine kQ (v:=(.pointer (some ⟨nb,0,none⟩))) (j:=2) (k':=k) (enc:=encF) (off:=of) rfl rfl rfl rfl α'86 ha encF_len hv_s Tk (by first | rfl | exact (Nat.add_zero _).symm | omega) (by rfl) ?_
  refine qK rfl rfl rfl rfl (qX rfl rfl rfl rfl (qL (k:=1) rfl rfl rfl rfl υ'88 rfl ζ'49 rfl ?_))
  refine kQ (v:=(.int .u64 ((r0:Nat):Int))) (j:=1) (k':=k) (enc:=encF) (off:=of) rfl rfl rfl rfl α'49 ha encF_len hv_s Tk (by first | rfl | exact (Nat.add_zero _).symm | omega) (by rfl) ?_
  refine qK rfl rfl rfl rfl (qX rfl rfl rfl rfl (qL (k:=1) rfl rfl rfl rfl υ'88 rfl ζ'49 rfl ?_))
  refine kQ (v:=(.int .u64 ((r0:Nat):Int))) (j:=1) (k':=k) (enc:=encF) (off:=of) rfl rfl rfl rfl α'49 ha encF_len hv_s Tk (by first | rfl | exact (Nat.add_zero _).symm | omega) (by rfl) ?_
  have sp_8:=ethread_spec r0 (by exact hr0)
  refine qM rfl rfl rfl rfl rfl rfl Try.call86 (sp_8) Ts ?_
  rintro ⟨⟩ -
  try simp only [List.cons_append,List.nil_append]
  refine ag_load_O (v:=(.pointer (some ⟨nb,0,none⟩))) (j:=2) (k':=k) (enc:=encF) (off:=of) rfl rfl rfl α'86 ha encF_len hv_s Tk (by first | rfl | exact (Nat.add_zero _).symm | omega) (by rfl) ?_
  refine ag_load_O (v:=(.int .u64 ((r0:Nat):Int))) (j:=1) (k':=k) (enc:=encF) (off:=of) rfl rfl rfl α'49 ha encF_len hv_s Tk (by first | rfl | exact (Nat.add_zero _).symm | omega) (by rfl) ?_
  refine qV ?_
  have sp_9:=eclock_spec r0 (by exact hr0)
  refine qM rfl rfl rfl rfl rfl rfl Try.call87 (sp_9) Ts ?_
  rintro ⟨⟩ -
  try simp only [List.cons_append,List.nil_append]
  refine ag_load_O (v:=(.pointer (some ⟨nb,0,none⟩))) (j:=2) (k':=k) (enc:=encF) (off:=of) rfl rfl rfl α'86 ha encF_len hv_s Tk (by first | rfl | exact (Nat.add_zero _).symm | omega) (by rfl) ?_
  refine qV ?_
  have sp_10:=Vc.set_spec nb ([]:List Int) none 0 0 Ln nil_cv (epT r0) Om ((epC r0:Nat):Int) Om (by exact hec)
  refine qM rfl rfl rfl rfl rfl rfl κ'30 (sp_10) Ts ?_
  rintro ⟨ya,yc⟩ -
  try simp only [List.cons_append,List.nil_append]
  refine qV (qS (qW [0,1,2,8] (e':=[(0,_),(1,_),(2,_),(8,_)]) rfl ?_))
  refine qQ (qG ?_)
  have hcy:CV (stL [] (epT r0) (epC r0:Int)):=stL_cv nil_cv Om Om hec
  have hyl:=hcy.len
  refine kX rfl (.q 0 (.q 1 (.q 2 (.q 3 (.q 4 (.q 5 (.q 6 ((.l 7 [3] ((.l 8 [] (.done)))))))))))) Kr ?_
  refine qK rfl rfl rfl rfl (qX rfl rfl rfl rfl (qL (k:=2) rfl rfl rfl rfl υ'88 rfl ζ'86 rfl ?_))
  refine kQ (v:=(.pointer (some ⟨nb,0,none⟩))) (j:=2) (k':=k) (enc:=encF) (off:=of) rfl rfl rfl rfl α'86 ha encF_len hv_s Tk (by first | rfl | exact (Nat.add_zero _).symm | omega) (by rfl) ?_
  refine qK rfl rfl rfl rfl (qK rfl rfl rfl rfl (qK rfl rfl rfl rfl ?_))
  have sp_11:=Vc.get_spec tb l ta l.length tc Ln t
  refine qM rfl rfl rfl rfl rfl rfl κ'48 (sp_11) Ts ?_
  rintro ⟨⟩ -
  try simp only [List.cons_append,List.nil_append]
  refine ag_load_O (v:=(.pointer (some ⟨nb,0,none⟩))) (j:=2) (k':=k) (enc:=encF) (off:=of) rfl rfl rfl α'86 ha encF_len hv_s Tk (by first | rfl | exact (Nat.add_zero _).symm | omega) (by rfl) ?_
  refine qV ?_
  have sp_12:=Vc.set_spec nb (stL ([]:List Int) (epT r0) ((epC r0:Nat):Int)) ya ((stL ([]:List Int) (epT r0) ((epC r0:Nat):Int)).length) yc Ln hcy t Om (l.getD t 0) Om (by exact hl2)
  refine qM rfl rfl rfl rfl rfl rfl κ'30 (sp_12) Ts ?_
  rintro ⟨za,zc⟩ -
  try simp only [List.cons_append,List.nil_append]
  refine qV (qS (qW [0,2] (e':=[(0,_),(2,_)]) rfl ?_))
  refine qQ (qG (qC (.q 0 (.q 1 (.q 2 ((.l 3 [] (.done)))))) Kr ?_))
  refine qK rfl rfl rfl rfl (qX rfl rfl rfl rfl (qL (k:=1) rfl rfl rfl rfl υ'88 rfl ζ'49 rfl ?_))
  refine kJ (j:=1) (k:=k) (q:=(w0_,0,some ⟨nb,0,none⟩,flN f0 n)) (enc:=encF) (off:=of) rfl rfl rfl rfl ζ'49 (us:=[_]) rfl rfl rfl ha encF_len hv_s Tk (by first | rfl | exact (Nat.add_zero _).symm | omega) (by first | decide | exact Nat.le_of_ble_eq_true rfl) (by rfl) ?_
  refine qV ?_
  have hv_z:(((V.set k (w0_,r0,none,flN f0 n)).set k (w0_,r0,some ⟨nb,0,none⟩,flN f0 n)).set k (w0_,0,some ⟨nb,0,none⟩,flN f0 n))[k]?=some (w0_,0,some ⟨nb,0,none⟩,flN f0 n):=List.getElem?_set_self (by first | exact hkV | (simp only [List.length_set];exact hkV))
  refine qS (qW [0] (e':=[(0,_)]) rfl ?_)
  refine qQ (qC (.q 0 (.q 1 (.q 2 (.q 3 (.q 4 (.q 5 (.q 6 ((.l 7 [] (.done)))))))))) Kr ?_)
  refine qK rfl rfl rfl rfl (qX rfl rfl rfl rfl (qL (k:=7) rfl rfl rfl rfl υ'81 rfl ζ'3 rfl ?_))
  refine qP (j:=7) rfl rfl rfl rfl α'3 Tk Az (by rfl) ?_
  refine qN rfl rfl rfl rfl rfl (cV _ (by exact kG Om Om)) ?_
  refine qX rfl rfl rfl rfl (qL (k:=7) rfl rfl rfl rfl υ'81 rfl ζ'3 rfl ?_)
  refine kR (j:=7) rfl rfl rfl rfl ζ'3 (us:=[_]) rfl rfl rfl Tk Az (by first | decide | (simp;done) | omega) ?_
  simp only [setL,List.set]
  refine qV (qS (qW [] (e':=[]) rfl ?_))
  refine kK (sR ?_)
  have hrv:rdV t l n (w0_,r0,none,f0)=((w0_,0,some (stL (stL [] (epT r0) (epC r0:Int)) t (l.getD t 0)),flN f0 n),1):=by
    unfold rdV
    simp only
    rw [if_neg hr,if_neg hcr,if_neg hcw]
  rw [hrv]
  refine s_vecF nb za zc (stL (stL [] (epT r0) (epC r0:Int)) t (l.getD t 0)) Ts ?_
  refine s_optF Td ?_
  refine rR rfl (some ⟨nb,0,none⟩) (by first | rfl | (first | rfl | (congr 1;done) | (congr 1 <;> first | rfl | omega | (simp;done) | (simp;omega)))) (by trivial) ?_
  dsimp only
  (try simp only [List.set_set])
  (try rw [sM hv])
  (try rw [Int.add_zero])
  exact Tf
 refine qF (qQ (kS (qG (qC (.q 0 (.q 1 (.q 2 (.q 3 (.q 4 (.q 5 (.done))))))) Kr ?_))))
 refine qK rfl rfl rfl rfl (qX rfl rfl rfl rfl (qL (k:=2) rfl rfl rfl rfl υ'88 rfl ζ'86 rfl ?_))
 refine kQ (v:=(.pointer none)) (j:=2) (k':=k) (enc:=encF) (off:=of) rfl rfl rfl rfl α'86 ha encF_len hv Tk (by first | rfl | exact (Nat.add_zero _).symm | omega) (by rfl) ?_
 refine q_ne_nil rfl rfl rfl rfl υ'86 ?_
 refine kH 110 rfl (v':=.bool false) rfl ?_
 refine qR rfl rfl rfl rfl (qS (qW [0,1,2,8,9,105] (e':=[(0,_),(1,_),(2,_),(8,_),(9,_),(105,_)]) rfl ?_))
 refine qQ (kB rfl ?_)
 refine qG (qC (.q 0 (.q 1 (.q 2 (.q 3 (.q 4 ((.l 5 [] (.q 6 (.done))))))))) Kr ?_)
 refine qK rfl rfl rfl rfl (qX rfl rfl rfl rfl (qL (k:=1) rfl rfl rfl rfl υ'88 rfl ζ'49 rfl ?_))
 refine kQ (v:=(.int .u64 ((r0:Nat):Int))) (j:=1) (k':=k) (enc:=encF) (off:=of) rfl rfl rfl rfl α'49 ha encF_len hv Tk (by first | rfl | exact (Nat.add_zero _).symm | omega) (by rfl) ?_
 refine qK rfl rfl rfl rfl ?_
 have sp_13:=cov_spec tb l ta l.length tc Ln hl r0 (by first | assumption | omega)
 refine qM rfl rfl rfl rfl rfl rfl κ'84 (sp_13) Ts ?_
 rintro ⟨⟩ -
 try simp only [List.cons_append,List.nil_append]
 refine qV (qR rfl rfl rfl rfl (qS (qW [0,1,2,8,9,120] (e':=[(0,_),(1,_),(2,_),(8,_),(9,_),(120,_)]) rfl ?_)))
 refine qQ ?_
 refine qB rfl (fun hcr=>?_) (fun hcr=>?_)
 ·
  refine qC (.q 0 (.q 1 (.q 2 (.q 3 ((.l 4 [] (.done))))))) Kr ?_
  refine qK rfl rfl rfl rfl (qK rfl rfl rfl rfl (qX rfl rfl rfl rfl (qL (k:=1) rfl rfl rfl rfl υ'88 rfl ζ'49 rfl ?_)))
  refine kJ (j:=1) (k:=k) (q:=(w0_,pkN t l,none,f0)) (enc:=encF) (off:=of) rfl rfl rfl rfl ζ'49 (us:=[_]) rfl rfl rfl ha encF_len hv Tk (by first | rfl | exact (Nat.add_zero _).symm | omega) (by first | decide | exact Nat.le_of_ble_eq_true rfl) (by rfl) ?_
  refine qV ?_
  have hv_r:(V.set k (w0_,pkN t l,none,f0))[k]?=some (w0_,pkN t l,none,f0):=List.getElem?_set_self (by first | exact hkV | (simp only [List.length_set];exact hkV))
  refine qS (qW [] (e':=[]) rfl ?_)
  refine kK (sR ?_)
  have hrv:rdV t l n (w0_,r0,none,f0)=((w0_,pkN t l,none,f0),0):=by
    unfold rdV
    simp only
    rw [if_neg hr,if_pos hcr,if_pos hcw]
  rw [hrv]
  refine s_optNF ?_
  refine rR rfl (none) (by first | rfl | (first | rfl | (congr 1;done) | (congr 1 <;> first | rfl | omega | (simp;done) | (simp;omega)))) (by trivial) ?_
  dsimp only
  (try simp only [List.set_set])
  (try rw [sM hv])
  (try rw [Int.add_zero])
  exact Tf
 refine qG (qC (.q 0 ((.l 1 [] (.q 2 (.q 3 ((.l 4 [] (.done)))))))) Kr ?_)
 refine qK rfl rfl rfl rfl ?_
 have sp_14:=cnew_spec
 refine qM rfl rfl rfl rfl rfl rfl κ'29 (sp_14) Ts ?_
 rintro nb -
 try simp only [List.cons_append,List.nil_append]
 refine qV (qX rfl rfl rfl rfl (qL (k:=2) rfl rfl rfl rfl υ'88 rfl ζ'86 rfl ?_))
 refine kJ (j:=2) (k:=k) (q:=(w0_,r0,some ⟨nb,0,none⟩,f0)) (enc:=encF) (off:=of) rfl rfl rfl rfl ζ'86 (us:=[_]) rfl rfl rfl ha encF_len hv Tk (by first | rfl | exact (Nat.add_zero _).symm | omega) (by first | decide | exact Nat.le_of_ble_eq_true rfl) (by rfl) ?_
 refine qV ?_
 have hv_s:(V.set k (w0_,r0,some ⟨nb,0,none⟩,f0))[k]?=some (w0_,r0,some ⟨nb,0,none⟩,f0):=List.getElem?_set_self (by first | exact hkV | (simp only [List.length_set];exact hkV))
 refine qS (kF (fun _ h=>cJ (sz:=1) (enc:=encU) h) ?_)
 refine qW [0,1,2,8] (e':=[(0,_),(1,_),(2,_),(8,_)]) rfl ?_
 refine qQ (qG ?_)
 have hec:(epC r0:Int)≤maxC:=by
   unfold epC;split
   · simp only [maxC];omega
   · decide
 refine kX rfl (.q 0 (.q 1 (.q 2 (.q 3 (.q 4 (.q 5 (.q 6 (.q 7 (.q 9 (.q 10 (.q 11 (.q 12 ((.l 8 [3,12] ((.l 13 [3] ((.l 14 [] (.done))))))))))))))))))) Kr ?_
 refine qK rfl rfl rfl rfl (qX rfl rfl rfl rfl (qL (k:=2) rfl rfl rfl rfl υ'88 rfl ζ'86 rfl ?_))
 refine kQ (v:=(.pointer (some ⟨nb,0,none⟩))) (j:=2) (k':=k) (enc:=encF) (off:=of) rfl rfl rfl rfl α'86 ha encF_len hv_s Tk (by first | rfl | exact (Nat.add_zero _).symm | omega) (by rfl) ?_
 refine qK rfl rfl rfl rfl (qX rfl rfl rfl rfl (qL (k:=1) rfl rfl rfl rfl υ'88 rfl ζ'49 rfl ?_))
 refine kQ (v:=(.int .u64 ((r0:Nat):Int))) (j:=1) (k':=k) (enc:=encF) (off:=of) rfl rfl rfl rfl α'49 ha encF_len hv_s Tk (by first | rfl | exact (Nat.add_zero _).symm | omega) (by rfl) ?_
 refine qK rfl rfl rfl rfl (qX rfl rfl rfl rfl (qL (k:=1) rfl rfl rfl rfl υ'88 rfl ζ'49 rfl ?_))
 refine kQ (v:=(.int .u64 ((r0:Nat):Int))) (j:=1) (k':=k) (enc:=encF) (off:=of) rfl rfl rfl rfl α'49 ha encF_len hv_s Tk (by first | rfl | exact (Nat.add_zero _).symm | omega) (by rfl) ?_
 have sp_15:=ethread_spec r0 (by exact hr0)
 refine qM rfl rfl rfl rfl rfl rfl Try.call86 (sp_15) Ts ?_
 rintro ⟨⟩ -
 try simp only [List.cons_append,List.nil_append]
 refine ag_load_O (v:=(.pointer (some ⟨nb,0,none⟩))) (j:=2) (k':=k) (enc:=encF) (off:=of) rfl rfl rfl α'86 ha encF_len hv_s Tk (by first | rfl | exact (Nat.add_zero _).symm | omega) (by rfl) ?_
 refine ag_load_O (v:=(.int .u64 ((r0:Nat):Int))) (j:=1) (k':=k) (enc:=encF) (off:=of) rfl rfl rfl α'49 ha encF_len hv_s Tk (by first | rfl | exact (Nat.add_zero _).symm | omega) (by rfl) ?_
 refine qV ?_
 have sp_16:=eclock_spec r0 (by exact hr0)
 refine qM rfl rfl rfl rfl rfl rfl Try.call87 (sp_16) Ts ?_
 rintro ⟨⟩ -
 try simp only [List.cons_append,List.nil_append]
 refine ag_load_O (v:=(.pointer (some ⟨nb,0,none⟩))) (j:=2) (k':=k) (enc:=encF) (off:=of) rfl rfl rfl α'86 ha encF_len hv_s Tk (by first | rfl | exact (Nat.add_zero _).symm | omega) (by rfl) ?_
 refine qV ?_
 have sp_17:=Vc.set_spec nb ([]:List Int) none 0 0 Ln nil_cv (epT r0) Om ((epC r0:Nat):Int) Om (by exact hec)
 refine qM rfl rfl rfl rfl rfl rfl κ'30 (sp_17) Ts ?_
 rintro ⟨ya,yc⟩ -
 try simp only [List.cons_append,List.nil_append]
 refine qV (qS (qW [0,1,2,8] (e':=[(0,_),(1,_),(2,_),(8,_)]) rfl ?_))
 refine qQ (qG ?_)
 have hcy:CV (stL [] (epT r0) (epC r0:Int)):=stL_cv nil_cv Om Om hec
 have hyl:=hcy.len
 refine kX rfl (.q 0 (.q 1 (.q 2 (.q 3 (.q 4 (.q 5 (.q 6 ((.l 7 [3] ((.l 8 [] (.done)))))))))))) Kr ?_
 refine qK rfl rfl rfl rfl (qX rfl rfl rfl rfl (qL (k:=2) rfl rfl rfl rfl υ'88 rfl ζ'86 rfl ?_))
 refine kQ (v:=(.pointer (some ⟨nb,0,none⟩))) (j:=2) (k':=k) (enc:=encF) (off:=of) rfl rfl rfl rfl α'86 ha encF_len hv_s Tk (by first | rfl | exact (Nat.add_zero _).symm | omega) (by rfl) ?_
 refine qK rfl rfl rfl rfl (qK rfl rfl rfl rfl (qK rfl rfl rfl rfl ?_))
 have sp_18:=Vc.get_spec tb l ta l.length tc Ln t
 refine qM rfl rfl rfl rfl rfl rfl κ'48 (sp_18) Ts ?_
 rintro ⟨⟩ -
 try simp only [List.cons_append,List.nil_append]
 refine ag_load_O (v:=(.pointer (some ⟨nb,0,none⟩))) (j:=2) (k':=k) (enc:=encF) (off:=of) rfl rfl rfl α'86 ha encF_len hv_s Tk (by first | rfl | exact (Nat.add_zero _).symm | omega) (by rfl) ?_
 refine qV ?_
 have sp_19:=Vc.set_spec nb (stL ([]:List Int) (epT r0) ((epC r0:Nat):Int)) ya ((stL ([]:List Int) (epT r0) ((epC r0:Nat):Int)).length) yc Ln hcy t Om (l.getD t 0) Om (by exact hl2)
 refine qM rfl rfl rfl rfl rfl rfl κ'30 (sp_19) Ts ?_
 rintro ⟨za,zc⟩ -
 try simp only [List.cons_append,List.nil_append]
 refine qV (qS (qW [0,2] (e':=[(0,_),(2,_)]) rfl ?_))
 refine qQ (qG (qC (.q 0 (.q 1 (.q 2 ((.l 3 [] (.done)))))) Kr ?_))
 refine qK rfl rfl rfl rfl (qX rfl rfl rfl rfl (qL (k:=1) rfl rfl rfl rfl υ'88 rfl ζ'49 rfl ?_))
 refine kJ (j:=1) (k:=k) (q:=(w0_,0,some ⟨nb,0,none⟩,f0)) (enc:=encF) (off:=of) rfl rfl rfl rfl ζ'49 (us:=[_]) rfl rfl rfl ha encF_len hv_s Tk (by first | rfl | exact (Nat.add_zero _).symm | omega) (by first | decide | exact Nat.le_of_ble_eq_true rfl) (by rfl) ?_
 refine qV ?_
 have hv_z:((V.set k (w0_,r0,some ⟨nb,0,none⟩,f0)).set k (w0_,0,some ⟨nb,0,none⟩,f0))[k]?=some (w0_,0,some ⟨nb,0,none⟩,f0):=List.getElem?_set_self (by first | exact hkV | (simp only [List.length_set];exact hkV))
 refine qS (qW [0] (e':=[(0,_)]) rfl ?_)
 refine qQ (qC (.q 0 (.q 1 (.q 2 (.q 3 (.q 4 (.q 5 (.q 6 ((.l 7 [] (.done)))))))))) Kr ?_)
 refine qK rfl rfl rfl rfl (qX rfl rfl rfl rfl (qL (k:=7) rfl rfl rfl rfl υ'81 rfl ζ'3 rfl ?_))
 refine qP (j:=7) rfl rfl rfl rfl α'3 Tk Az (by rfl) ?_
 refine qN rfl rfl rfl rfl rfl (cV _ (by exact kG Om Om)) ?_
 refine qX rfl rfl rfl rfl (qL (k:=7) rfl rfl rfl rfl υ'81 rfl ζ'3 rfl ?_)
 refine kR (j:=7) rfl rfl rfl rfl ζ'3 (us:=[_]) rfl rfl rfl Tk Az (by first | decide | (simp;done) | omega) ?_
 simp only [setL,List.set]
 refine qV (qS (qW [] (e':=[]) rfl ?_))
 refine kK (sR ?_)
 have hrv:rdV t l n (w0_,r0,none,f0)=((w0_,0,some (stL (stL [] (epT r0) (epC r0:Int)) t (l.getD t 0)),f0),1):=by
   unfold rdV
   simp only
   rw [if_neg hr,if_neg hcr,if_pos hcw]
 rw [hrv]
 refine s_vecF nb za zc (stL (stL [] (epT r0) (epC r0:Int)) t (l.getD t 0)) Ts ?_
 refine s_optF Td ?_
 refine rR rfl (some ⟨nb,0,none⟩) (by first | rfl | (first | rfl | (congr 1;done) | (congr 1 <;> first | rfl | omega | (simp;done) | (simp;omega)))) (by trivial) ?_
 dsimp only
 (try simp only [List.set_set])
 (try rw [sM hv])
 (try rw [Int.add_zero])
 exact Tf
theorem write_none (db m1 tb tc t vb of k vc:Nat) (v0 v1 v3 v4 v5 v6:Value) (cost n:Int) (F1:Int→Option (Option Addr)) (ta va:Option Addr) (l:List Int) (V:List P4F) (w0_ r0:Nat) (so:Option Addr) (f0:Int) (hF:F1 ((t:Nat):Int)=some (some ⟨tb,0,none⟩)) (ht:t < 65535) (hl:CV l) (hl1:1≤l.getD t 0) (hc0:0≤cost∧cost≤1000000000000000) (hw0:w0_ < 18446744073709551616) (hr0:r0 < 18446744073709551616) (hv:V[k]?=some (w0_,r0,so,f0)) (ha:va=some ⟨vb,of,none⟩):Spec Try.prog 52 [.pointer (some ⟨db,0,none⟩),.int .i64 ((t:Nat):Int),.pointer (some ⟨vb,of+k*(3+1),none⟩),.int .i64 n] [cells db 0 [v0,v1,.map (some m1),v3,v4,v5,v6,.int .i64 cost],mapO ekZ evA m1 F1,cells tb 0 [.slice ta l.length tc],own 1 encU ta tc l,own 4 encF va vc V,optA so none] (fun (r:Option Addr)=>.tuple #[]) (fun r=>True) (fun r=>[cells db 0 [v0,v1,.map (some m1),v3,v4,v5,v6,.int .i64 (cost+(wrV t l n (w0_,r0,none,f0)).2)],mapO ekZ evA m1 F1,cells tb 0 [.slice ta l.length tc],own 1 encU ta tc l,own 4 encF va vc (V.set k ((wrV t l n (w0_,r0,none,f0)).1.1,(wrV t l n (w0_,r0,none,f0)).1.2.1,r,(wrV t l n (w0_,r0,none,f0)).1.2.2.2)),optA r (wrV t l n (w0_,r0,none,f0)).1.2.2.1]):=by
 refine kP (n:=79) Try.func52 rfl rfl rfl ?_
 intro Γ w0
 simp only [argE,List.cons_append,List.nil_append,Nat.zero_add,Nat.reduceAdd]
 have hl2:=(g_rng hl.rng (by decide) t).2
 have hll:=hl.len
 have hkV:=(List.getElem?_eq_some_iff.1 hv).1
 refine s_optN (a:=so) Tk fun hso=>?_
 subst hso
 have het:=epT_lt r0
 refine qG (qC (.q 0 (.q 1 (.q 2 (.q 3 (.q 4 (.q 5 (.q 6 (.done)))))))) Kr ?_)
 refine qK rfl rfl rfl rfl (qX rfl rfl rfl rfl (qL (k:=2) rfl rfl rfl rfl υ'81 rfl ζ'77 rfl ?_))
 refine qP (j:=2) rfl rfl rfl rfl α'77 Tk Az (by rfl) ?_
 refine qK rfl rfl rfl rfl (sL (ek:=ekZ) (ev1:=evA) (F:=F1) (m:=m1) (k:=((t:Nat):Int)) none rfl rfl rfl rfl rfl υ'77 (cW υ'3) ω'86 Tk ?_)
 refine kH 16 rfl (v':=.pointer (some ⟨tb,0,none⟩)) (by rw [hF];rfl) ?_
 refine qR rfl rfl rfl rfl (qS (qW [0,1,2,3,8] (e':=[(0,_),(1,_),(2,_),(3,_),(8,_)]) rfl ?_))
 refine qQ (qG (qC (.q 0 (.q 1 (.q 2 ((.l 3 [] ((.l 4 [] (.q 5 (.q 6 (.q 7 (.q 8 (.q 9 (.done))))))))))))) Kr ?_))
 refine qK rfl rfl rfl rfl (qK rfl rfl rfl rfl (qK rfl rfl rfl rfl ?_))
 have sp_1:=Vc.get_spec tb l ta l.length tc Ln t
 refine qM rfl rfl rfl rfl rfl rfl κ'48 (sp_1) Ts ?_
 rintro ⟨⟩ -
 try simp only [List.cons_append,List.nil_append]
 refine qV ?_
 have sp_2:=packs_spec t l ht hl1 hl2
 refine qM rfl rfl rfl rfl rfl rfl κ'83 (sp_2) Ts ?_
 rintro ⟨⟩ -
 try simp only [List.cons_append,List.nil_append]
 refine qV (qK rfl rfl rfl rfl (kW rfl rfl rfl rfl rfl (kW rfl rfl rfl rfl rfl (qR rfl rfl rfl rfl (qR rfl rfl rfl rfl (qS (qW [0,2,3,8,9] (e':=[(0,_),(2,_),(3,_),(8,_),(9,_)]) rfl ?_)))))))
 refine qQ (qG (qG (qC (.q 0 (.q 1 (.q 2 (.q 3 (.q 4 (.q 5 (.done))))))) Kr ?_)))
 refine qK rfl rfl rfl rfl (qX rfl rfl rfl rfl (qL (k:=0) rfl rfl rfl rfl υ'88 rfl ζ'49 rfl ?_))
 refine kQ (v:=(.int .u64 ((w0_:Nat):Int))) (j:=0) (k':=k) (enc:=encF) (off:=of) rfl rfl rfl rfl α'49 ha encF_len hv Tk (by first | rfl | exact (Nat.add_zero _).symm | omega) (by rfl) ?_
 refine qK rfl rfl rfl rfl (qN rfl rfl rfl rfl rfl (cS _ _ _ _) ?_)
 refine qS (qW [0,2,3,8,9,30] (e':=[(0,_),(2,_),(3,_),(8,_),(9,_),(30,_)]) rfl ?_)
 refine qQ ?_
 refine qB rfl (fun hw=>?_) (fun hw=>?_)
 ·
  have hw:w0_=pkN t l:=by omega
  refine qJ (qD ?_)
  have hrv:wrV t l n (w0_,r0,none,f0)=((w0_,r0,none,f0),0):=by
    unfold wrV
    simp only
    rw [if_pos hw]
  rw [hrv]
  refine s_optNF ?_
  refine rR rfl (none) (by first | rfl | (first | rfl | (congr 1;done) | (congr 1 <;> first | rfl | omega | (simp;done) | (simp;omega)))) (by trivial) ?_
  dsimp only
  (try simp only [List.set_set])
  (try rw [sM hv])
  (try rw [Int.add_zero])
  exact Tf
 have hw:¬ w0_=pkN t l:=by omega
 refine qF (qQ (qG (qG (qC (.q 0 (.q 1 (.q 2 (.q 3 (.q 4 ((.l 5 [] (.q 6 (.q 7 (.q 8 (.q 9 (.q 10 (.q 11 (.q 12 ((.l 13 [] (.q 14 (.q 15 (.done))))))))))))))))))) Kr ?_))))
 refine qK rfl rfl rfl rfl (qX rfl rfl rfl rfl (qL (k:=0) rfl rfl rfl rfl υ'88 rfl ζ'49 rfl ?_))
 refine kQ (v:=(.int .u64 ((w0_:Nat):Int))) (j:=0) (k':=k) (enc:=encF) (off:=of) rfl rfl rfl rfl α'49 ha encF_len hv Tk (by first | rfl | exact (Nat.add_zero _).symm | omega) (by rfl) ?_
 refine qK rfl rfl rfl rfl ?_
 have sp_3:=cov_spec tb l ta l.length tc Ln hl w0_ (by first | assumption | omega)
 refine qM rfl rfl rfl rfl rfl rfl κ'84 (sp_3) Ts ?_
 rintro ⟨⟩ -
 try simp only [List.cons_append,List.nil_append]
 refine qV (rL rfl rfl rfl rfl ?_)
 refine qK rfl rfl rfl rfl ?_
 refine s_bool_np 38 rfl (fun hcw=>?_) (fun hcw=>?_)
 ·
  refine qY rfl rfl rfl rfl (qY rfl rfl rfl rfl (qY rfl rfl rfl rfl (qY rfl rfl rfl rfl (qY rfl rfl rfl rfl (sZ rfl rfl rfl rfl ?_)))))
  refine qY rfl rfl rfl rfl (kZ rfl rfl rfl rfl rfl (qS (qW [0,2,3,8,9,46] (e':=[(0,_),(2,_),(3,_),(8,_),(9,_),(46,_)]) rfl ?_)))
  refine qQ (cN rfl ?_)
  refine qC (.q 0 (.q 1 ((.l 2 [] (.done))))) Kr ?_
  refine qK rfl rfl rfl rfl (qK rfl rfl rfl rfl ?_)
  have sp_5:=flagged_spec vb of k vc va V (w0_,r0,none,f0) hv ha n
  refine qM rfl rfl rfl rfl rfl rfl κ'85 (sp_5) Ts ?_
  rintro ⟨⟩ -
  have hv_4:(V.set k (w0_,r0,none,flN f0 n))[k]?=some (w0_,r0,none,flN f0 n):=List.getElem?_set_self (by first | exact (List.getElem?_eq_some_iff.1 hv).1 | (simp only [List.length_set];exact (List.getElem?_eq_some_iff.1 hv).1))
  try simp only [List.cons_append,List.nil_append]
  refine qV (qS (qW [0,2,3,8,9] (e':=[(0,_),(2,_),(3,_),(8,_),(9,_)]) rfl ?_))
  refine qQ (qG (qG (qC (.q 0 (.q 1 (.q 2 (.q 3 (.q 4 (.done)))))) Kr ?_)))
  refine qK rfl rfl rfl rfl (qX rfl rfl rfl rfl (qL (k:=2) rfl rfl rfl rfl υ'88 rfl ζ'86 rfl ?_))
  refine kQ (v:=(.pointer none)) (j:=2) (k':=k) (enc:=encF) (off:=of) rfl rfl rfl rfl α'86 ha encF_len hv_4 Tk (by first | rfl | exact (Nat.add_zero _).symm | omega) (by rfl) ?_
  refine q_ne_nil rfl rfl rfl rfl υ'86 ?_
  refine kH 54 rfl (v':=.bool false) rfl ?_
  refine qS (qW [0,2,3,8,9,54] (e':=[(0,_),(2,_),(3,_),(8,_),(9,_),(54,_)]) rfl ?_)
  refine qQ (kB rfl ?_)
  refine qF (qQ (qC (.q 0 (.q 1 (.q 2 (.q 3 ((.l 4 [] (.done))))))) Kr ?_))
  refine qK rfl rfl rfl rfl (qK rfl rfl rfl rfl (qX rfl rfl rfl rfl (qL (k:=0) rfl rfl rfl rfl υ'88 rfl ζ'49 rfl ?_)))
  refine kJ (j:=0) (k:=k) (q:=(pkN t l,r0,none,flN f0 n)) (enc:=encF) (off:=of) rfl rfl rfl rfl ζ'49 (us:=[_]) rfl rfl rfl ha encF_len hv_4 Tk (by first | rfl | exact (Nat.add_zero _).symm | omega) (by first | decide | exact Nat.le_of_ble_eq_true rfl) (by rfl) ?_
  refine qV ?_
  have hv_w:((V.set k (w0_,r0,none,flN f0 n)).set k (pkN t l,r0,none,flN f0 n))[k]?=some (pkN t l,r0,none,flN f0 n):=List.getElem?_set_self (by first | exact hkV | (simp only [List.length_set];exact hkV))
  refine qS (qW [] (e':=[]) rfl ?_)
  refine sR ?_
  have hrv:wrV t l n (w0_,r0,none,f0)=((pkN t l,r0,none,flN f0 n),0):=by
    unfold wrV
    simp only
    rw [if_neg hw,if_neg (fun h=>hcw h.1)]
  rw [hrv]
  refine s_optNF ?_
  refine rR rfl (none) (by first | rfl | (first | rfl | (congr 1;done) | (congr 1 <;> first | rfl | omega | (simp;done) | (simp;omega)))) (by trivial) ?_
  dsimp only
  (try simp only [List.set_set])
  (try rw [sM hv])
  (try rw [Int.add_zero])
  exact Tf
 refine qK rfl rfl rfl rfl (qX rfl rfl rfl rfl (qL (k:=1) rfl rfl rfl rfl υ'88 rfl ζ'49 rfl ?_))
 refine kQ (v:=(.int .u64 ((r0:Nat):Int))) (j:=1) (k':=k) (enc:=encF) (off:=of) rfl rfl rfl rfl α'49 ha encF_len hv Tk (by first | rfl | exact (Nat.add_zero _).symm | omega) (by rfl) ?_
 refine qK rfl rfl rfl rfl ?_
 have sp_6:=cov_spec tb l ta l.length tc Ln hl r0 (by first | assumption | omega)
 refine qM rfl rfl rfl rfl rfl rfl κ'84 (sp_6) Ts ?_
 rintro ⟨⟩ -
 try simp only [List.cons_append,List.nil_append]
 refine qV (rL rfl rfl rfl rfl ?_)
 refine kC rfl rfl rfl rfl rfl (qS (qW [0,2,3,8,9,46] (e':=[(0,_),(2,_),(3,_),(8,_),(9,_),(46,_)]) rfl ?_))
 refine qQ ?_
 refine c_cond_np rfl (fun hcr=>?_) (fun hcr=>?_)
 ·
  refine qC (.q 0 (.q 1 ((.l 2 [] (.done))))) Kr ?_
  refine qK rfl rfl rfl rfl (qK rfl rfl rfl rfl ?_)
  have sp_8:=flagged_spec vb of k vc va V (w0_,r0,none,f0) hv ha n
  refine qM rfl rfl rfl rfl rfl rfl κ'85 (sp_8) Ts ?_
  rintro ⟨⟩ -
  have hv_7:(V.set k (w0_,r0,none,flN f0 n))[k]?=some (w0_,r0,none,flN f0 n):=List.getElem?_set_self (by first | exact (List.getElem?_eq_some_iff.1 hv).1 | (simp only [List.length_set];exact (List.getElem?_eq_some_iff.1 hv).1))
  try simp only [List.cons_append,List.nil_append]
  refine qV (qS (qW [0,2,3,8,9] (e':=[(0,_),(2,_),(3,_),(8,_),(9,_)]) rfl ?_))
  refine qQ (qG (qG (qC (.q 0 (.q 1 (.q 2 (.q 3 (.q 4 (.done)))))) Kr ?_)))
  refine qK rfl rfl rfl rfl (qX rfl rfl rfl rfl (qL (k:=2) rfl rfl rfl rfl υ'88 rfl ζ'86 rfl ?_))
  refine kQ (v:=(.pointer none)) (j:=2) (k':=k) (enc:=encF) (off:=of) rfl rfl rfl rfl α'86 ha encF_len hv_7 Tk (by first | rfl | exact (Nat.add_zero _).symm | omega) (by rfl) ?_
  refine q_ne_nil rfl rfl rfl rfl υ'86 ?_
  refine kH 54 rfl (v':=.bool false) rfl ?_
  refine qS (qW [0,2,3,8,9,54] (e':=[(0,_),(2,_),(3,_),(8,_),(9,_),(54,_)]) rfl ?_)
  refine qQ (kB rfl ?_)
  refine qF (qQ (qC (.q 0 (.q 1 (.q 2 (.q 3 ((.l 4 [] (.done))))))) Kr ?_))
  refine qK rfl rfl rfl rfl (qK rfl rfl rfl rfl (qX rfl rfl rfl rfl (qL (k:=0) rfl rfl rfl rfl υ'88 rfl ζ'49 rfl ?_)))
  refine kJ (j:=0) (k:=k) (q:=(pkN t l,r0,none,flN f0 n)) (enc:=encF) (off:=of) rfl rfl rfl rfl ζ'49 (us:=[_]) rfl rfl rfl ha encF_len hv_7 Tk (by first | rfl | exact (Nat.add_zero _).symm | omega) (by first | decide | exact Nat.le_of_ble_eq_true rfl) (by rfl) ?_
  refine qV ?_
  have hv_w:((V.set k (w0_,r0,none,flN f0 n)).set k (pkN t l,r0,none,flN f0 n))[k]?=some (pkN t l,r0,none,flN f0 n):=List.getElem?_set_self (by first | exact hkV | (simp only [List.length_set];exact hkV))
  refine qS (qW [] (e':=[]) rfl ?_)
  refine sR ?_
  have hrv:wrV t l n (w0_,r0,none,f0)=((pkN t l,r0,none,flN f0 n),0):=by
    unfold wrV
    simp only
    rw [if_neg hw,if_neg (fun h=>hcr h.2)]
  rw [hrv]
  refine s_optNF ?_
  refine rR rfl (none) (by first | rfl | (first | rfl | (congr 1;done) | (congr 1 <;> first | rfl | omega | (simp;done) | (simp;omega)))) (by trivial) ?_
  dsimp only
  (try simp only [List.set_set])
  (try rw [sM hv])
  (try rw [Int.add_zero])
  exact Tf
 refine qF (qQ (qG (qG (qC (.q 0 (.q 1 (.q 2 (.q 3 (.q 4 (.done)))))) Kr ?_))))
 refine qK rfl rfl rfl rfl (qX rfl rfl rfl rfl (qL (k:=2) rfl rfl rfl rfl υ'88 rfl ζ'86 rfl ?_))
 refine kQ (v:=(.pointer none)) (j:=2) (k':=k) (enc:=encF) (off:=of) rfl rfl rfl rfl α'86 ha encF_len hv Tk (by first | rfl | exact (Nat.add_zero _).symm | omega) (by rfl) ?_
 refine q_ne_nil rfl rfl rfl rfl υ'86 ?_
 refine kH 54 rfl (v':=.bool false) rfl ?_
 refine qS (qW [0,2,3,8,9,54] (e':=[(0,_),(2,_),(3,_),(8,_),(9,_),(54,_)]) rfl ?_)
 refine qQ (kB rfl ?_)
 refine qF (qQ (qC (.q 0 (.q 1 (.q 2 (.q 3 ((.l 4 [] (.done))))))) Kr ?_))
 refine qK rfl rfl rfl rfl (qK rfl rfl rfl rfl (qX rfl rfl rfl rfl (qL (k:=0) rfl rfl rfl rfl υ'88 rfl ζ'49 rfl ?_)))
 refine kJ (j:=0) (k:=k) (q:=(pkN t l,r0,none,f0)) (enc:=encF) (off:=of) rfl rfl rfl rfl ζ'49 (us:=[_]) rfl rfl rfl ha encF_len hv Tk (by first | rfl | exact (Nat.add_zero _).symm | omega) (by first | decide | exact Nat.le_of_ble_eq_true rfl) (by rfl) ?_
 refine qV ?_
 have hv_w:(V.set k (pkN t l,r0,none,f0))[k]?=some (pkN t l,r0,none,f0):=List.getElem?_set_self (by first | exact hkV | (simp only [List.length_set];exact hkV))
 refine qS (qW [] (e':=[]) rfl ?_)
 refine sR ?_
 have hrv:wrV t l n (w0_,r0,none,f0)=((pkN t l,r0,none,f0),0):=by
   unfold wrV
   simp only
   rw [if_neg hw,if_pos (⟨hcw,hcr⟩)]
 rw [hrv]
 refine s_optNF ?_
 refine rR rfl (none) (by first | rfl | (first | rfl | (congr 1;done) | (congr 1 <;> first | rfl | omega | (simp;done) | (simp;omega)))) (by trivial) ?_
 dsimp only
 (try simp only [List.set_set])
 (try rw [sM hv])
 (try rw [Int.add_zero])
 exact Tf
theorem write_some (db m1 tb tc t vb of k vc:Nat) (v0 v1 v3 v4 v5 v6:Value) (cost n:Int) (F1:Int→Option (Option Addr)) (ta va:Option Addr) (l:List Int) (V:List P4F) (w0_ r0:Nat) (so:Option Addr) (f0:Int) (hF:F1 ((t:Nat):Int)=some (some ⟨tb,0,none⟩)) (ht:t < 65535) (hl:CV l) (hl1:1≤l.getD t 0) (hc0:0≤cost∧cost≤1000000000000000) (hw0:w0_ < 18446744073709551616) (hr0:r0 < 18446744073709551616) (hv:V[k]?=some (w0_,r0,so,f0)) (ha:va=some ⟨vb,of,none⟩) (s:List Int) (hs:CV s):Spec Try.prog 52 [.pointer (some ⟨db,0,none⟩),.int .i64 ((t:Nat):Int),.pointer (some ⟨vb,of+k*(3+1),none⟩),.int .i64 n] [cells db 0 [v0,v1,.map (some m1),v3,v4,v5,v6,.int .i64 cost],mapO ekZ evA m1 F1,cells tb 0 [.slice ta l.length tc],own 1 encU ta tc l,own 4 encF va vc V,optA so (some s)] (fun (r:Option Addr)=>.tuple #[]) (fun r=>True) (fun r=>[cells db 0 [v0,v1,.map (some m1),v3,v4,v5,v6,.int .i64 (cost+(wrV t l n (w0_,r0,some s,f0)).2)],mapO ekZ evA m1 F1,cells tb 0 [.slice ta l.length tc],own 1 encU ta tc l,own 4 encF va vc (V.set k ((wrV t l n (w0_,r0,some s,f0)).1.1,(wrV t l n (w0_,r0,some s,f0)).1.2.1,r,(wrV t l n (w0_,r0,some s,f0)).1.2.2.2)),optA r (wrV t l n (w0_,r0,some s,f0)).1.2.2.1]):=by
 refine kP (n:=79) Try.func52 rfl rfl rfl ?_
 intro Γ w0
 simp only [argE,List.cons_append,List.nil_append,Nat.zero_add,Nat.reduceAdd]
 have hl2:=(g_rng hl.rng (by decide) t).2
 have hll:=hl.len
 have hkV:=(List.getElem?_eq_some_iff.1 hv).1
 refine s_optS (a:=so) (l:=s) Tk fun sb sa sc hso=>?_
 subst hso
 try simp only [List.cons_append,List.nil_append]
 have hsl:=hs.len
 refine qG (qC (.q 0 (.q 1 (.q 2 (.q 3 (.q 4 (.q 5 (.q 6 (.done)))))))) Kr ?_)
 refine qK rfl rfl rfl rfl (qX rfl rfl rfl rfl (qL (k:=2) rfl rfl rfl rfl υ'81 rfl ζ'77 rfl ?_))
 refine qP (j:=2) rfl rfl rfl rfl α'77 Tk Az (by rfl) ?_
 refine qK rfl rfl rfl rfl (sL (ek:=ekZ) (ev1:=evA) (F:=F1) (m:=m1) (k:=((t:Nat):Int)) none rfl rfl rfl rfl rfl υ'77 (cW υ'3) ω'86 Tk ?_)
 refine kH 16 rfl (v':=.pointer (some ⟨tb,0,none⟩)) (by rw [hF];rfl) ?_
 refine qR rfl rfl rfl rfl (qS (qW [0,1,2,3,8] (e':=[(0,_),(1,_),(2,_),(3,_),(8,_)]) rfl ?_))
 refine qQ (qG (qC (.q 0 (.q 1 (.q 2 ((.l 3 [] ((.l 4 [] (.q 5 (.q 6 (.q 7 (.q 8 (.q 9 (.done))))))))))))) Kr ?_))
 refine qK rfl rfl rfl rfl (qK rfl rfl rfl rfl (qK rfl rfl rfl rfl ?_))
 have sp_1:=Vc.get_spec tb l ta l.length tc Ln t
 refine qM rfl rfl rfl rfl rfl rfl κ'48 (sp_1) Ts ?_
 rintro ⟨⟩ -
 try simp only [List.cons_append,List.nil_append]
 refine qV ?_
 have sp_2:=packs_spec t l ht hl1 hl2
 refine qM rfl rfl rfl rfl rfl rfl κ'83 (sp_2) Ts ?_
 rintro ⟨⟩ -
 try simp only [List.cons_append,List.nil_append]
 refine qV (qK rfl rfl rfl rfl (kW rfl rfl rfl rfl rfl (kW rfl rfl rfl rfl rfl (qR rfl rfl rfl rfl (qR rfl rfl rfl rfl (qS (qW [0,2,3,8,9] (e':=[(0,_),(2,_),(3,_),(8,_),(9,_)]) rfl ?_)))))))
 refine qQ (qG (qG (qC (.q 0 (.q 1 (.q 2 (.q 3 (.q 4 (.q 5 (.done))))))) Kr ?_)))
 refine qK rfl rfl rfl rfl (qX rfl rfl rfl rfl (qL (k:=0) rfl rfl rfl rfl υ'88 rfl ζ'49 rfl ?_))
 refine kQ (v:=(.int .u64 ((w0_:Nat):Int))) (j:=0) (k':=k) (enc:=encF) (off:=of) rfl rfl rfl rfl α'49 ha encF_len hv Tk (by first | rfl | exact (Nat.add_zero _).symm | omega) (by rfl) ?_
 refine qK rfl rfl rfl rfl (qN rfl rfl rfl rfl rfl (cS _ _ _ _) ?_)
 refine qS (qW [0,2,3,8,9,30] (e':=[(0,_),(2,_),(3,_),(8,_),(9,_),(30,_)]) rfl ?_)
 refine qQ ?_
 refine qB rfl (fun hw=>?_) (fun hw=>?_)
 ·
  have hw:w0_=pkN t l:=by omega
  refine qJ (qD ?_)
  have hrv:wrV t l n (w0_,r0,some s,f0)=((w0_,r0,some s,f0),0):=by
    unfold wrV
    simp only
    rw [if_pos hw]
  rw [hrv]
  refine s_vecF sb sa sc s Ts ?_
  refine s_optF Td ?_
  refine rR rfl (some ⟨sb,0,none⟩) (by first | rfl | (first | rfl | (congr 1;done) | (congr 1 <;> first | rfl | omega | (simp;done) | (simp;omega)))) (by trivial) ?_
  dsimp only
  (try simp only [List.set_set])
  (try rw [sM hv])
  (try rw [Int.add_zero])
  exact Tf
 have hw:¬ w0_=pkN t l:=by omega
 refine qF (qQ (qG (qG (qC (.q 0 (.q 1 (.q 2 (.q 3 (.q 4 ((.l 5 [] (.q 6 (.q 7 (.q 8 (.q 9 (.q 10 (.q 11 (.q 12 ((.l 13 [] (.q 14 (.q 15 (.done))))))))))))))))))) Kr ?_))))
 refine qK rfl rfl rfl rfl (qX rfl rfl rfl rfl (qL (k:=0) rfl rfl rfl rfl υ'88 rfl ζ'49 rfl ?_))
 refine kQ (v:=(.int .u64 ((w0_:Nat):Int))) (j:=0) (k':=k) (enc:=encF) (off:=of) rfl rfl rfl rfl α'49 ha encF_len hv Tk (by first | rfl | exact (Nat.add_zero _).symm | omega) (by rfl) ?_
 refine qK rfl rfl rfl rfl ?_
 have sp_3:=cov_spec tb l ta l.length tc Ln hl w0_ (by first | assumption | omega)
 refine qM rfl rfl rfl rfl rfl rfl κ'84 (sp_3) Ts ?_
 rintro ⟨⟩ -
 try simp only [List.cons_append,List.nil_append]
 refine qV (rL rfl rfl rfl rfl ?_)
 refine qK rfl rfl rfl rfl ?_
 refine s_bool_np 38 rfl (fun hcw=>?_) (fun hcw=>?_)
 ·
  refine qY rfl rfl rfl rfl (qY rfl rfl rfl rfl (qY rfl rfl rfl rfl (qY rfl rfl rfl rfl (qY rfl rfl rfl rfl (sZ rfl rfl rfl rfl ?_)))))
  refine qY rfl rfl rfl rfl (kZ rfl rfl rfl rfl rfl (qS (qW [0,2,3,8,9,46] (e':=[(0,_),(2,_),(3,_),(8,_),(9,_),(46,_)]) rfl ?_)))
  refine qQ (cN rfl ?_)
  refine qC (.q 0 (.q 1 ((.l 2 [] (.done))))) Kr ?_
  refine qK rfl rfl rfl rfl (qK rfl rfl rfl rfl ?_)
  have sp_5:=flagged_spec vb of k vc va V (w0_,r0,some ⟨sb,0,none⟩,f0) hv ha n
  refine qM rfl rfl rfl rfl rfl rfl κ'85 (sp_5) Ts ?_
  rintro ⟨⟩ -
  have hv_4:(V.set k (w0_,r0,some ⟨sb,0,none⟩,flN f0 n))[k]?=some (w0_,r0,some ⟨sb,0,none⟩,flN f0 n):=List.getElem?_set_self (by first | exact (List.getElem?_eq_some_iff.1 hv).1 | (simp only [List.length_set];exact (List.getElem?_eq_some_iff.1 hv).1))
  try simp only [List.cons_append,List.nil_append]
  refine qV (qS (qW [0,2,3,8,9] (e':=[(0,_),(2,_),(3,_),(8,_),(9,_)]) rfl ?_))
  refine qQ (qG (qG (qC (.q 0 (.q 1 (.q 2 (.q 3 (.q 4 (.done)))))) Kr ?_)))
  refine qK rfl rfl rfl rfl (qX rfl rfl rfl rfl (qL (k:=2) rfl rfl rfl rfl υ'88 rfl ζ'86 rfl ?_))
  refine kQ (v:=(.pointer (some ⟨sb,0,none⟩))) (j:=2) (k':=k) (enc:=encF) (off:=of) rfl rfl rfl rfl α'86 ha encF_len hv_4 Tk (by first | rfl | exact (Nat.add_zero _).symm | omega) (by rfl) ?_
  refine q_ne_nil rfl rfl rfl rfl υ'86 ?_
  refine kH 54 rfl (v':=.bool true) rfl ?_
  refine qS (qW [0,2,3,8,9,54] (e':=[(0,_),(2,_),(3,_),(8,_),(9,_),(54,_)]) rfl ?_)
  refine qQ (cN rfl ?_)
  refine qG (qC (.q 0 (.q 1 (.q 2 (.q 3 (.q 4 (.q 5 (.q 6 ((.l 7 [] (.done)))))))))) Kr ?_)
  refine qK rfl rfl rfl rfl (qX rfl rfl rfl rfl (qL (k:=7) rfl rfl rfl rfl υ'81 rfl ζ'3 rfl ?_))
  refine qP (j:=7) rfl rfl rfl rfl α'3 Tk Az (by rfl) ?_
  refine qN rfl rfl rfl rfl rfl (cV _ (by exact kG Om Om)) ?_
  refine qX rfl rfl rfl rfl (qL (k:=7) rfl rfl rfl rfl υ'81 rfl ζ'3 rfl ?_)
  refine kR (j:=7) rfl rfl rfl rfl ζ'3 (us:=[_]) rfl rfl rfl Tk Az (by first | decide | (simp;done) | omega) ?_
  simp only [setL,List.set]
  refine qV (qS (qW [2,3,8,9] (e':=[(2,_),(3,_),(8,_),(9,_)]) rfl ?_))
  refine qQ (qG (qG (qC (.q 0 (.q 1 (.q 2 (.q 3 (.q 4 ((.l 5 [] (.q 6 (.done))))))))) Kr ?_)))
  refine qK rfl rfl rfl rfl (qX rfl rfl rfl rfl (qL (k:=2) rfl rfl rfl rfl υ'88 rfl ζ'86 rfl ?_))
  refine kQ (v:=(.pointer (some ⟨sb,0,none⟩))) (j:=2) (k':=k) (enc:=encF) (off:=of) rfl rfl rfl rfl α'86 ha encF_len hv_4 Tk (by first | rfl | exact (Nat.add_zero _).symm | omega) (by rfl) ?_
  refine qK rfl rfl rfl rfl ?_
  have sp_6:=Vc.leq_spec sb tb s l sa ta s.length sc l.length tc (by rfl) (by rfl) hs hl
  refine qM rfl rfl rfl rfl rfl rfl Try.call88 (sp_6) Ts ?_
  rintro ⟨⟩ -
  try simp only [List.cons_append,List.nil_append]
  refine qV (rL rfl rfl rfl rfl ?_)
  refine qS (qW [2,3,9,68] (e':=[(2,_),(3,_),(9,_),(68,_)]) rfl ?_)
  refine qQ ?_
  refine c_cond_np rfl (fun hle=>?_) (fun hle=>?_)
  ·
   refine qC (.q 0 (.q 1 ((.l 2 [] (.done))))) Kr ?_
   refine qK rfl rfl rfl rfl (qK rfl rfl rfl rfl ?_)
   have sp_8:=flagged_spec vb of k vc va (V.set k (w0_,r0,some ⟨sb,0,none⟩,flN f0 n)) (w0_,r0,some ⟨sb,0,none⟩,flN f0 n) hv_4 ha n
   refine qM rfl rfl rfl rfl rfl rfl κ'85 (sp_8) Ts ?_
   rintro ⟨⟩ -
   have hv_7:((V.set k (w0_,r0,some ⟨sb,0,none⟩,flN f0 n)).set k (w0_,r0,some ⟨sb,0,none⟩,flN (flN f0 n) n))[k]?=some (w0_,r0,some ⟨sb,0,none⟩,flN (flN f0 n) n):=List.getElem?_set_self (by first | exact (List.getElem?_eq_some_iff.1 hv).1 | (simp only [List.length_set];exact (List.getElem?_eq_some_iff.1 hv).1))
   try simp only [List.cons_append,List.nil_append]
   refine qV (qS (qW [2,9] (e':=[(2,_),(9,_)]) rfl ?_))
   refine qQ (qC (.q 0 (.q 1 (.q 2 ((.l 3 [] (.done)))))) Kr ?_)
   refine qK rfl rfl rfl rfl (qX rfl rfl rfl rfl (qL (k:=2) rfl rfl rfl rfl υ'88 rfl ζ'86 rfl ?_))
   refine kJ (j:=2) (k:=k) (q:=(w0_,r0,none,flN (flN f0 n) n)) (enc:=encF) (off:=of) rfl rfl rfl rfl ζ'86 (us:=[_]) rfl rfl rfl ha encF_len hv_7 Tk (by first | rfl | exact (Nat.add_zero _).symm | omega) (by first | decide | exact Nat.le_of_ble_eq_true rfl) (by rfl) ?_
   refine qV ?_
   have hv_s:(((V.set k (w0_,r0,some ⟨sb,0,none⟩,flN f0 n)).set k (w0_,r0,some ⟨sb,0,none⟩,flN (flN f0 n) n)).set k (w0_,r0,none,flN (flN f0 n) n))[k]?=some (w0_,r0,none,flN (flN f0 n) n):=List.getElem?_set_self (by first | exact hkV | (simp only [List.length_set];exact hkV))
   refine qS (qQ (qC (.q 0 (.q 1 (.q 2 (.q 3 ((.l 4 [] (.done))))))) Kr ?_))
   refine qK rfl rfl rfl rfl (qK rfl rfl rfl rfl (qX rfl rfl rfl rfl (qL (k:=0) rfl rfl rfl rfl υ'88 rfl ζ'49 rfl ?_)))
   refine kJ (j:=0) (k:=k) (q:=(pkN t l,r0,none,flN (flN f0 n) n)) (enc:=encF) (off:=of) rfl rfl rfl rfl ζ'49 (us:=[_]) rfl rfl rfl ha encF_len hv_s Tk (by first | rfl | exact (Nat.add_zero _).symm | omega) (by first | decide | exact Nat.le_of_ble_eq_true rfl) (by rfl) ?_
   refine qV ?_
   have hv_w:((((V.set k (w0_,r0,some ⟨sb,0,none⟩,flN f0 n)).set k (w0_,r0,some ⟨sb,0,none⟩,flN (flN f0 n) n)).set k (w0_,r0,none,flN (flN f0 n) n)).set k (pkN t l,r0,none,flN (flN f0 n) n))[k]?=some (pkN t l,r0,none,flN (flN f0 n) n):=List.getElem?_set_self (by first | exact hkV | (simp only [List.length_set];exact hkV))
   refine qS (qW [] (e':=[]) rfl ?_)
   refine sR ?_
   have hrv:wrV t l n (w0_,r0,some s,f0)=((pkN t l,r0,none,flN (flN f0 n) n),1):=by
     unfold wrV
     simp only
     rw [if_neg hw,if_neg hle,if_neg (fun h=>hcw h.1)]
   rw [hrv]
   refine s_optNF ?_
   refine rR rfl (none) (by first | rfl | (first | rfl | (congr 1;done) | (congr 1 <;> first | rfl | omega | (simp;done) | (simp;omega)))) (by trivial) ?_
   dsimp only
   (try simp only [List.set_set])
   (try rw [sM hv])
   (try rw [Int.add_zero])
   exact Tf
  refine qF (qQ (qC (.q 0 (.q 1 (.q 2 ((.l 3 [] (.done)))))) Kr ?_))
  refine qK rfl rfl rfl rfl (qX rfl rfl rfl rfl (qL (k:=2) rfl rfl rfl rfl υ'88 rfl ζ'86 rfl ?_))
  refine kJ (j:=2) (k:=k) (q:=(w0_,r0,none,flN f0 n)) (enc:=encF) (off:=of) rfl rfl rfl rfl ζ'86 (us:=[_]) rfl rfl rfl ha encF_len hv_4 Tk (by first | rfl | exact (Nat.add_zero _).symm | omega) (by first | decide | exact Nat.le_of_ble_eq_true rfl) (by rfl) ?_
  refine qV ?_
  have hv_s:((V.set k (w0_,r0,some ⟨sb,0,none⟩,flN f0 n)).set k (w0_,r0,none,flN f0 n))[k]?=some (w0_,r0,none,flN f0 n):=List.getElem?_set_self (by first | exact hkV | (simp only [List.length_set];exact hkV))
  refine qS (qW [2,9] (e':=[(2,_),(9,_)]) rfl ?_)
  refine qQ (qC (.q 0 (.q 1 (.q 2 (.q 3 ((.l 4 [] (.done))))))) Kr ?_)
  refine qK rfl rfl rfl rfl (qK rfl rfl rfl rfl (qX rfl rfl rfl rfl (qL (k:=0) rfl rfl rfl rfl υ'88 rfl ζ'49 rfl ?_)))
  refine kJ (j:=0) (k:=k) (q:=(pkN t l,r0,none,flN f0 n)) (enc:=encF) (off:=of) rfl rfl rfl rfl ζ'49 (us:=[_]) rfl rfl rfl ha encF_len hv_s Tk (by first | rfl | exact (Nat.add_zero _).symm | omega) (by first | decide | exact Nat.le_of_ble_eq_true rfl) (by rfl) ?_
  refine qV ?_
  have hv_w:(((V.set k (w0_,r0,some ⟨sb,0,none⟩,flN f0 n)).set k (w0_,r0,none,flN f0 n)).set k (pkN t l,r0,none,flN f0 n))[k]?=some (pkN t l,r0,none,flN f0 n):=List.getElem?_set_self (by first | exact hkV | (simp only [List.length_set];exact hkV))
  refine qS (qW [] (e':=[]) rfl ?_)
  refine sR ?_
  have hrv:wrV t l n (w0_,r0,some s,f0)=((pkN t l,r0,none,flN f0 n),1):=by
    unfold wrV
    simp only
    rw [if_neg hw,if_pos hle,if_neg (fun h=>hcw h.1)]
  rw [hrv]
  refine s_optNF ?_
  refine rR rfl (none) (by first | rfl | (first | rfl | (congr 1;done) | (congr 1 <;> first | rfl | omega | (simp;done) | (simp;omega)))) (by trivial) ?_
  dsimp only
  (try simp only [List.set_set])
  (try rw [sM hv])
  (try rw [Int.add_zero])
  exact Tf
 refine qK rfl rfl rfl rfl (qX rfl rfl rfl rfl (qL (k:=1) rfl rfl rfl rfl υ'88 rfl ζ'49 rfl ?_))
 refine kQ (v:=(.int .u64 ((r0:Nat):Int))) (j:=1) (k':=k) (enc:=encF) (off:=of) rfl rfl rfl rfl α'49 ha encF_len hv Tk (by first | rfl | exact (Nat.add_zero _).symm | omega) (by rfl) ?_
 refine qK rfl rfl rfl rfl ?_
 have sp_9:=cov_spec tb l ta l.length tc Ln hl r0 (by first | assumption | omega)
 refine qM rfl rfl rfl rfl rfl rfl κ'84 (sp_9) Ts ?_
 rintro ⟨⟩ -
 try simp only [List.cons_append,List.nil_append]
 refine qV (rL rfl rfl rfl rfl ?_)
 refine kC rfl rfl rfl rfl rfl (qS (qW [0,2,3,8,9,46] (e':=[(0,_),(2,_),(3,_),(8,_),(9,_),(46,_)]) rfl ?_))
 refine qQ ?_
 refine c_cond_np rfl (fun hcr=>?_) (fun hcr=>?_)
 ·
  refine qC (.q 0 (.q 1 ((.l 2 [] (.done))))) Kr ?_
  refine qK rfl rfl rfl rfl (qK rfl rfl rfl rfl ?_)
  have sp_11:=flagged_spec vb of k vc va V (w0_,r0,some ⟨sb,0,none⟩,f0) hv ha n
  refine qM rfl rfl rfl rfl rfl rfl κ'85 (sp_11) Ts ?_
  rintro ⟨⟩ -
  have hv_10:(V.set k (w0_,r0,some ⟨sb,0,none⟩,flN f0 n))[k]?=some (w0_,r0,some ⟨sb,0,none⟩,flN f0 n):=List.getElem?_set_self (by first | exact (List.getElem?_eq_some_iff.1 hv).1 | (simp only [List.length_set];exact (List.getElem?_eq_some_iff.1 hv).1))
  try simp only [List.cons_append,List.nil_append]
  refine qV (qS (qW [0,2,3,8,9] (e':=[(0,_),(2,_),(3,_),(8,_),(9,_)]) rfl ?_))
  refine qQ (qG (qG (qC (.q 0 (.q 1 (.q 2 (.q 3 (.q 4 (.done)))))) Kr ?_)))
  refine qK rfl rfl rfl rfl (qX rfl rfl rfl rfl (qL (k:=2) rfl rfl rfl rfl υ'88 rfl ζ'86 rfl ?_))
  refine kQ (v:=(.pointer (some ⟨sb,0,none⟩))) (j:=2) (k':=k) (enc:=encF) (off:=of) rfl rfl rfl rfl α'86 ha encF_len hv_10 Tk (by first | rfl | exact (Nat.add_zero _).symm | omega) (by rfl) ?_
  refine q_ne_nil rfl rfl rfl rfl υ'86 ?_
  refine kH 54 rfl (v':=.bool true) rfl ?_
  refine qS (qW [0,2,3,8,9,54] (e':=[(0,_),(2,_),(3,_),(8,_),(9,_),(54,_)]) rfl ?_)
  refine qQ (cN rfl ?_)
  refine qG (qC (.q 0 (.q 1 (.q 2 (.q 3 (.q 4 (.q 5 (.q 6 ((.l 7 [] (.done)))))))))) Kr ?_)
  refine qK rfl rfl rfl rfl (qX rfl rfl rfl rfl (qL (k:=7) rfl rfl rfl rfl υ'81 rfl ζ'3 rfl ?_))
  refine qP (j:=7) rfl rfl rfl rfl α'3 Tk Az (by rfl) ?_
  refine qN rfl rfl rfl rfl rfl (cV _ (by exact kG Om Om)) ?_
  refine qX rfl rfl rfl rfl (qL (k:=7) rfl rfl rfl rfl υ'81 rfl ζ'3 rfl ?_)
  refine kR (j:=7) rfl rfl rfl rfl ζ'3 (us:=[_]) rfl rfl rfl Tk Az (by first | decide | (simp;done) | omega) ?_
  simp only [setL,List.set]
  refine qV (qS (qW [2,3,8,9] (e':=[(2,_),(3,_),(8,_),(9,_)]) rfl ?_))
  refine qQ (qG (qG (qC (.q 0 (.q 1 (.q 2 (.q 3 (.q 4 ((.l 5 [] (.q 6 (.done))))))))) Kr ?_)))
  refine qK rfl rfl rfl rfl (qX rfl rfl rfl rfl (qL (k:=2) rfl rfl rfl rfl υ'88 rfl ζ'86 rfl ?_))
  refine kQ (v:=(.pointer (some ⟨sb,0,none⟩))) (j:=2) (k':=k) (enc:=encF) (off:=of) rfl rfl rfl rfl α'86 ha encF_len hv_10 Tk (by first | rfl | exact (Nat.add_zero _).symm | omega) (by rfl) ?_
  refine qK rfl rfl rfl rfl ?_
  have sp_12:=Vc.leq_spec sb tb s l sa ta s.length sc l.length tc (by rfl) (by rfl) hs hl
  refine qM rfl rfl rfl rfl rfl rfl Try.call88 (sp_12) Ts ?_
  rintro ⟨⟩ -
  try simp only [List.cons_append,List.nil_append]
  refine qV (rL rfl rfl rfl rfl ?_)
  refine qS (qW [2,3,9,68] (e':=[(2,_),(3,_),(9,_),(68,_)]) rfl ?_)
  refine qQ ?_
  refine c_cond_np rfl (fun hle=>?_) (fun hle=>?_)
  ·
   refine qC (.q 0 (.q 1 ((.l 2 [] (.done))))) Kr ?_
   refine qK rfl rfl rfl rfl (qK rfl rfl rfl rfl ?_)
   have sp_14:=flagged_spec vb of k vc va (V.set k (w0_,r0,some ⟨sb,0,none⟩,flN f0 n)) (w0_,r0,some ⟨sb,0,none⟩,flN f0 n) hv_10 ha n
   refine qM rfl rfl rfl rfl rfl rfl κ'85 (sp_14) Ts ?_
   rintro ⟨⟩ -
   have hv_13:((V.set k (w0_,r0,some ⟨sb,0,none⟩,flN f0 n)).set k (w0_,r0,some ⟨sb,0,none⟩,flN (flN f0 n) n))[k]?=some (w0_,r0,some ⟨sb,0,none⟩,flN (flN f0 n) n):=List.getElem?_set_self (by first | exact (List.getElem?_eq_some_iff.1 hv).1 | (simp only [List.length_set];exact (List.getElem?_eq_some_iff.1 hv).1))
   try simp only [List.cons_append,List.nil_append]
   refine qV (qS (qW [2,9] (e':=[(2,_),(9,_)]) rfl ?_))
   refine qQ (qC (.q 0 (.q 1 (.q 2 ((.l 3 [] (.done)))))) Kr ?_)
   refine qK rfl rfl rfl rfl (qX rfl rfl rfl rfl (qL (k:=2) rfl rfl rfl rfl υ'88 rfl ζ'86 rfl ?_))
   refine kJ (j:=2) (k:=k) (q:=(w0_,r0,none,flN (flN f0 n) n)) (enc:=encF) (off:=of) rfl rfl rfl rfl ζ'86 (us:=[_]) rfl rfl rfl ha encF_len hv_13 Tk (by first | rfl | exact (Nat.add_zero _).symm | omega) (by first | decide | exact Nat.le_of_ble_eq_true rfl) (by rfl) ?_
   refine qV ?_
   have hv_s:(((V.set k (w0_,r0,some ⟨sb,0,none⟩,flN f0 n)).set k (w0_,r0,some ⟨sb,0,none⟩,flN (flN f0 n) n)).set k (w0_,r0,none,flN (flN f0 n) n))[k]?=some (w0_,r0,none,flN (flN f0 n) n):=List.getElem?_set_self (by first | exact hkV | (simp only [List.length_set];exact hkV))
   refine qS (qQ (qC (.q 0 (.q 1 (.q 2 (.q 3 ((.l 4 [] (.done))))))) Kr ?_))
   refine qK rfl rfl rfl rfl (qK rfl rfl rfl rfl (qX rfl rfl rfl rfl (qL (k:=0) rfl rfl rfl rfl υ'88 rfl ζ'49 rfl ?_)))
   refine kJ (j:=0) (k:=k) (q:=(pkN t l,r0,none,flN (flN f0 n) n)) (enc:=encF) (off:=of) rfl rfl rfl rfl ζ'49 (us:=[_]) rfl rfl rfl ha encF_len hv_s Tk (by first | rfl | exact (Nat.add_zero _).symm | omega) (by first | decide | exact Nat.le_of_ble_eq_true rfl) (by rfl) ?_
   refine qV ?_
   have hv_w:((((V.set k (w0_,r0,some ⟨sb,0,none⟩,flN f0 n)).set k (w0_,r0,some ⟨sb,0,none⟩,flN (flN f0 n) n)).set k (w0_,r0,none,flN (flN f0 n) n)).set k (pkN t l,r0,none,flN (flN f0 n) n))[k]?=some (pkN t l,r0,none,flN (flN f0 n) n):=List.getElem?_set_self (by first | exact hkV | (simp only [List.length_set];exact hkV))
   refine qS (qW [] (e':=[]) rfl ?_)
   refine sR ?_
   have hrv:wrV t l n (w0_,r0,some s,f0)=((pkN t l,r0,none,flN (flN f0 n) n),1):=by
     unfold wrV
     simp only
     rw [if_neg hw,if_neg hle,if_neg (fun h=>hcr h.2)]
   rw [hrv]
   refine s_optNF ?_
   refine rR rfl (none) (by first | rfl | (first | rfl | (congr 1;done) | (congr 1 <;> first | rfl | omega | (simp;done) | (simp;omega)))) (by trivial) ?_
   dsimp only
   (try simp only [List.set_set])
   (try rw [sM hv])
   (try rw [Int.add_zero])
   exact Tf
  refine qF (qQ (qC (.q 0 (.q 1 (.q 2 ((.l 3 [] (.done)))))) Kr ?_))
  refine qK rfl rfl rfl rfl (qX rfl rfl rfl rfl (qL (k:=2) rfl rfl rfl rfl υ'88 rfl ζ'86 rfl ?_))
  refine kJ (j:=2) (k:=k) (q:=(w0_,r0,none,flN f0 n)) (enc:=encF) (off:=of) rfl rfl rfl rfl ζ'86 (us:=[_]) rfl rfl rfl ha encF_len hv_10 Tk (by first | rfl | exact (Nat.add_zero _).symm | omega) (by first | decide | exact Nat.le_of_ble_eq_true rfl) (by rfl) ?_
  refine qV ?_
  have hv_s:((V.set k (w0_,r0,some ⟨sb,0,none⟩,flN f0 n)).set k (w0_,r0,none,flN f0 n))[k]?=some (w0_,r0,none,flN f0 n):=List.getElem?_set_self (by first | exact hkV | (simp only [List.length_set];exact hkV))
  refine qS (qW [2,9] (e':=[(2,_),(9,_)]) rfl ?_)
  refine qQ (qC (.q 0 (.q 1 (.q 2 (.q 3 ((.l 4 [] (.done))))))) Kr ?_)
  refine qK rfl rfl rfl rfl (qK rfl rfl rfl rfl (qX rfl rfl rfl rfl (qL (k:=0) rfl rfl rfl rfl υ'88 rfl ζ'49 rfl ?_)))
  refine kJ (j:=0) (k:=k) (q:=(pkN t l,r0,none,flN f0 n)) (enc:=encF) (off:=of) rfl rfl rfl rfl ζ'49 (us:=[_]) rfl rfl rfl ha encF_len hv_s Tk (by first | rfl | exact (Nat.add_zero _).symm | omega) (by first | decide | exact Nat.le_of_ble_eq_true rfl) (by rfl) ?_
  refine qV ?_
  have hv_w:(((V.set k (w0_,r0,some ⟨sb,0,none⟩,flN f0 n)).set k (w0_,r0,none,flN f0 n)).set k (pkN t l,r0,none,flN f0 n))[k]?=some (pkN t l,r0,none,flN f0 n):=List.getElem?_set_self (by first | exact hkV | (simp only [List.length_set];exact hkV))
  refine qS (qW [] (e':=[]) rfl ?_)
  refine sR ?_
  have hrv:wrV t l n (w0_,r0,some s,f0)=((pkN t l,r0,none,flN f0 n),1):=by
    unfold wrV
    simp only
    rw [if_neg hw,if_pos hle,if_neg (fun h=>hcr h.2)]
  rw [hrv]
  refine s_optNF ?_
  refine rR rfl (none) (by first | rfl | (first | rfl | (congr 1;done) | (congr 1 <;> first | rfl | omega | (simp;done) | (simp;omega)))) (by trivial) ?_
  dsimp only
  (try simp only [List.set_set])
  (try rw [sM hv])
  (try rw [Int.add_zero])
  exact Tf
 refine qF (qQ (qG (qG (qC (.q 0 (.q 1 (.q 2 (.q 3 (.q 4 (.done)))))) Kr ?_))))
 refine qK rfl rfl rfl rfl (qX rfl rfl rfl rfl (qL (k:=2) rfl rfl rfl rfl υ'88 rfl ζ'86 rfl ?_))
 refine kQ (v:=(.pointer (some ⟨sb,0,none⟩))) (j:=2) (k':=k) (enc:=encF) (off:=of) rfl rfl rfl rfl α'86 ha encF_len hv Tk (by first | rfl | exact (Nat.add_zero _).symm | omega) (by rfl) ?_
 refine q_ne_nil rfl rfl rfl rfl υ'86 ?_
 refine kH 54 rfl (v':=.bool true) rfl ?_
 refine qS (qW [0,2,3,8,9,54] (e':=[(0,_),(2,_),(3,_),(8,_),(9,_),(54,_)]) rfl ?_)
 refine qQ (cN rfl ?_)
 refine qG (qC (.q 0 (.q 1 (.q 2 (.q 3 (.q 4 (.q 5 (.q 6 ((.l 7 [] (.done)))))))))) Kr ?_)
 refine qK rfl rfl rfl rfl (qX rfl rfl rfl rfl (qL (k:=7) rfl rfl rfl rfl υ'81 rfl ζ'3 rfl ?_))
 refine qP (j:=7) rfl rfl rfl rfl α'3 Tk Az (by rfl) ?_
 refine qN rfl rfl rfl rfl rfl (cV _ (by exact kG Om Om)) ?_
 refine qX rfl rfl rfl rfl (qL (k:=7) rfl rfl rfl rfl υ'81 rfl ζ'3 rfl ?_)
 refine kR (j:=7) rfl rfl rfl rfl ζ'3 (us:=[_]) rfl rfl rfl Tk Az (by first | decide | (simp;done) | omega) ?_
 simp only [setL,List.set]
 refine qV (qS (qW [2,3,8,9] (e':=[(2,_),(3,_),(8,_),(9,_)]) rfl ?_))
 refine qQ (qG (qG (qC (.q 0 (.q 1 (.q 2 (.q 3 (.q 4 ((.l 5 [] (.q 6 (.done))))))))) Kr ?_)))
 refine qK rfl rfl rfl rfl (qX rfl rfl rfl rfl (qL (k:=2) rfl rfl rfl rfl υ'88 rfl ζ'86 rfl ?_))
 refine kQ (v:=(.pointer (some ⟨sb,0,none⟩))) (j:=2) (k':=k) (enc:=encF) (off:=of) rfl rfl rfl rfl α'86 ha encF_len hv Tk (by first | rfl | exact (Nat.add_zero _).symm | omega) (by rfl) ?_
 refine qK rfl rfl rfl rfl ?_
 have sp_15:=Vc.leq_spec sb tb s l sa ta s.length sc l.length tc (by rfl) (by rfl) hs hl
 refine qM rfl rfl rfl rfl rfl rfl Try.call88 (sp_15) Ts ?_
 rintro ⟨⟩ -
 try simp only [List.cons_append,List.nil_append]
 refine qV (rL rfl rfl rfl rfl ?_)
 refine qS (qW [2,3,9,68] (e':=[(2,_),(3,_),(9,_),(68,_)]) rfl ?_)
 refine qQ ?_
 refine c_cond_np rfl (fun hle=>?_) (fun hle=>?_)
 ·
  refine qC (.q 0 (.q 1 ((.l 2 [] (.done))))) Kr ?_
  refine qK rfl rfl rfl rfl (qK rfl rfl rfl rfl ?_)
  have sp_17:=flagged_spec vb of k vc va V (w0_,r0,some ⟨sb,0,none⟩,f0) hv ha n
  refine qM rfl rfl rfl rfl rfl rfl κ'85 (sp_17) Ts ?_
  rintro ⟨⟩ -
  have hv_16:(V.set k (w0_,r0,some ⟨sb,0,none⟩,flN f0 n))[k]?=some (w0_,r0,some ⟨sb,0,none⟩,flN f0 n):=List.getElem?_set_self (by first | exact (List.getElem?_eq_some_iff.1 hv).1 | (simp only [List.length_set];exact (List.getElem?_eq_some_iff.1 hv).1))
  try simp only [List.cons_append,List.nil_append]
  refine qV (qS (qW [2,9] (e':=[(2,_),(9,_)]) rfl ?_))
  refine qQ (qC (.q 0 (.q 1 (.q 2 ((.l 3 [] (.done)))))) Kr ?_)
  refine qK rfl rfl rfl rfl (qX rfl rfl rfl rfl (qL (k:=2) rfl rfl rfl rfl υ'88 rfl ζ'86 rfl ?_))
  refine kJ (j:=2) (k:=k) (q:=(w0_,r0,none,flN f0 n)) (enc:=encF) (off:=of) rfl rfl rfl rfl ζ'86 (us:=[_]) rfl rfl rfl ha encF_len hv_16 Tk (by first | rfl | exact (Nat.add_zero _).symm | omega) (by first | decide | exact Nat.le_of_ble_eq_true rfl) (by rfl) ?_
  refine qV ?_
  have hv_s:((V.set k (w0_,r0,some ⟨sb,0,none⟩,flN f0 n)).set k (w0_,r0,none,flN f0 n))[k]?=some (w0_,r0,none,flN f0 n):=List.getElem?_set_self (by first | exact hkV | (simp only [List.length_set];exact hkV))
  refine qS (qQ (qC (.q 0 (.q 1 (.q 2 (.q 3 ((.l 4 [] (.done))))))) Kr ?_))
  refine qK rfl rfl rfl rfl (qK rfl rfl rfl rfl (qX rfl rfl rfl rfl (qL (k:=0) rfl rfl rfl rfl υ'88 rfl ζ'49 rfl ?_)))
  refine kJ (j:=0) (k:=k) (q:=(pkN t l,r0,none,flN f0 n)) (enc:=encF) (off:=of) rfl rfl rfl rfl ζ'49 (us:=[_]) rfl rfl rfl ha encF_len hv_s Tk (by first | rfl | exact (Nat.add_zero _).symm | omega) (by first | decide | exact Nat.le_of_ble_eq_true rfl) (by rfl) ?_
  refine qV ?_
  have hv_w:(((V.set k (w0_,r0,some ⟨sb,0,none⟩,flN f0 n)).set k (w0_,r0,none,flN f0 n)).set k (pkN t l,r0,none,flN f0 n))[k]?=some (pkN t l,r0,none,flN f0 n):=List.getElem?_set_self (by first | exact hkV | (simp only [List.length_set];exact hkV))
  refine qS (qW [] (e':=[]) rfl ?_)
  refine sR ?_
  have hrv:wrV t l n (w0_,r0,some s,f0)=((pkN t l,r0,none,flN f0 n),1):=by
    unfold wrV
    simp only
    rw [if_neg hw,if_neg hle,if_pos (⟨hcw,hcr⟩)]
  rw [hrv]
  refine s_optNF ?_
  refine rR rfl (none) (by first | rfl | (first | rfl | (congr 1;done) | (congr 1 <;> first | rfl | omega | (simp;done) | (simp;omega)))) (by trivial) ?_
  dsimp only
  (try simp only [List.set_set])
  (try rw [sM hv])
  (try rw [Int.add_zero])
  exact Tf
 refine qF (qQ (qC (.q 0 (.q 1 (.q 2 ((.l 3 [] (.done)))))) Kr ?_))
 refine qK rfl rfl rfl rfl (qX rfl rfl rfl rfl (qL (k:=2) rfl rfl rfl rfl υ'88 rfl ζ'86 rfl ?_))
 refine kJ (j:=2) (k:=k) (q:=(w0_,r0,none,f0)) (enc:=encF) (off:=of) rfl rfl rfl rfl ζ'86 (us:=[_]) rfl rfl rfl ha encF_len hv Tk (by first | rfl | exact (Nat.add_zero _).symm | omega) (by first | decide | exact Nat.le_of_ble_eq_true rfl) (by rfl) ?_
 refine qV ?_
 have hv_s:(V.set k (w0_,r0,none,f0))[k]?=some (w0_,r0,none,f0):=List.getElem?_set_self (by first | exact hkV | (simp only [List.length_set];exact hkV))
 refine qS (qW [2,9] (e':=[(2,_),(9,_)]) rfl ?_)
 refine qQ (qC (.q 0 (.q 1 (.q 2 (.q 3 ((.l 4 [] (.done))))))) Kr ?_)
 refine qK rfl rfl rfl rfl (qK rfl rfl rfl rfl (qX rfl rfl rfl rfl (qL (k:=0) rfl rfl rfl rfl υ'88 rfl ζ'49 rfl ?_)))
 refine kJ (j:=0) (k:=k) (q:=(pkN t l,r0,none,f0)) (enc:=encF) (off:=of) rfl rfl rfl rfl ζ'49 (us:=[_]) rfl rfl rfl ha encF_len hv_s Tk (by first | rfl | exact (Nat.add_zero _).symm | omega) (by first | decide | exact Nat.le_of_ble_eq_true rfl) (by rfl) ?_
 refine qV ?_
 have hv_w:((V.set k (w0_,r0,none,f0)).set k (pkN t l,r0,none,f0))[k]?=some (pkN t l,r0,none,f0):=List.getElem?_set_self (by first | exact hkV | (simp only [List.length_set];exact hkV))
 refine qS (qW [] (e':=[]) rfl ?_)
 refine sR ?_
 have hrv:wrV t l n (w0_,r0,some s,f0)=((pkN t l,r0,none,f0),1):=by
   unfold wrV
   simp only
   rw [if_neg hw,if_pos hle,if_pos (⟨hcw,hcr⟩)]
 rw [hrv]
 refine s_optNF ?_
 refine rR rfl (none) (by first | rfl | (first | rfl | (congr 1;done) | (congr 1 <;> first | rfl | omega | (simp;done) | (simp;omega)))) (by trivial) ?_
 dsimp only
 (try simp only [List.set_set])
 (try rw [sM hv])
 (try rw [Int.add_zero])
 exact Tf
end Go.Ab.Fa
set_option linter.unusedVariables false
set_option linter.unusedSimpArgs false
set_option maxRecDepth 100000
namespace Go.Ab.Fa
open Go Go.Proofs Go.Ab Go.Ab.Fe Go.Ab.Vc Go.Ab.Dj
theorem jn_comm {l m:List Int} (hl:CV l) (hm:CV m):jn l m=jn m l:=Tr_ext (jn_cv hl hm).tr (jn_cv hm hl).tr fun i=>by rw [jn_g hl hm,jn_g hm hl];omega
theorem jn_nil {l:List Int} (hl:CV l):jn [] l=l:=Tr_ext (jn_cv nil_cv hl).tr hl.tr fun i=>by
  rw [jn_g nil_cv hl]
  have:=(g_rng hl.rng (by decide) i).1
  simp only [List.getD_nil];omega
theorem mg_jn {m:Option (List Int)} {l:List Int} (hl:CV l) (h:∀ q,m=some q→CV q):jn (m.getD []) l=mgF m l:=by
  cases m with
  | none=>exact jn_nil hl
  | some q=>exact jn_comm (h q rfl) hl
section
variable {w0:World} {ds:List Deferred} {n:Nat} {e:Env} {Γ Γ':List HProp} {X:Act→World→Prop}
theorem s_whole {b:Nat} {v:Value} {vs:List Value} (tk:Takes Γ [cells b 0 [v],cells b (0+1) vs] Γ') (k:Le (St w0 ds n e (cells b 0 (v::vs)::Γ')) X):Le (St w0 ds n e Γ) X:=kF (fun h s=>cells_whole (tk h s)) k
end
theorem join_spec (ka:Option Addr) (km:Option (List Int)) (hkc:∀ q,km=some q→CV q) (b:Nat) (l:List Int) (ao:Option Addr) (cap:Nat) (hl:CV l):Spec Try.prog 53 [.pointer (some ⟨b,0,none⟩),.pointer ka] [optA ka km,cells b 0 [.slice ao l.length cap],own 1 encU ao cap l] (fun (r:Option Addr × Nat)=>.tuple #[]) (fun r=>True) (fun r=>[optA ka km,cells b 0 [.slice r.1 (mgF km l).length r.2],own 1 encU r.1 r.2 (mgF km l)]):=by
 refine kP (n:=10) Try.func53 rfl rfl rfl ?_
 intro Γ w0
 simp only [argE,List.cons_append,List.nil_append,Nat.zero_add,Nat.reduceAdd]
 have hll:=hl.len
 refine qG (qC (.q 0 (.q 1 (.done))) Kr ?_)
 refine qK rfl rfl rfl rfl (q_ne_nil rfl rfl rfl rfl υ'86 ?_)
 refine qS (qQ ?_)
 refine c_cond rfl (fun hk=>?_) (fun hk=>?_)
 ·
  have hk2:ka≠none:=by intro h;rw [h] at hk;cases hk
  refine s_opt (a:=ka) (m:=km) Tk hk2 fun kb kao kcap kl hkm hka=>?_
  subst hkm
  subst hka
  try simp only [List.cons_append,List.nil_append]
  refine qC (.q 0 (.q 1 ((.l 2 [] ((.l 3 [] (.done))))))) Kr ?_
  refine qK rfl rfl rfl rfl (qK rfl rfl rfl rfl (cG rfl rfl rfl rfl (cB (us:=[_]) υ'182 ζ'86 rfl ω'86 rfl rfl rfl) ?_))
  intro b8
  refine qV (sH (f:=kf) ?_)
  refine kF (fun _ h=>Bun.fold ((by (repeat ((with_reducible apply Z2);focus (first | (with_reducible (repeat (first | exact Z0 | apply Z1));done) | (repeat (first | exact Z0 | apply Z1)))));exact Z3:Takes _ [cells kb 0 [.slice kao kl.length kcap],own 1 encU kao kcap kl] _) _ h)) ?_
  refine rS (f:=kf) (L:=[]) (x:=(kb,kao,kcap,kl)) Ts ?_
  simp only [List.nil_append]
  have sp_1:=Vc.join_spec b l ao l.length cap Ln hl [(kb,kao,kcap,kl)] [(kb,kao,kcap,kl)] (fun x hx=>hx) (by intro x hx;simp at hx;subst hx;exact (hkc _ rfl)) (some ⟨b8,0,none⟩) 1 1 (cells b8 0 [.pointer (some ⟨kb,0,none⟩)]) (sW sC) rfl (by decide)
  refine qM rfl rfl rfl rfl rfl rfl κ'89 (sp_1) Ts ?_
  rintro ⟨ja,jc⟩ -
  try simp only [List.cons_append,List.nil_append]
  refine s_big_take (f:=kf) (L:=[(kb,kao,kcap,kl)]) (i:=0) (x:=(kb,kao,kcap,kl)) Tk rfl ?_
  refine s_bun ?_
  try simp only [List.cons_append,List.nil_append,List.eraseIdx_cons_zero]
  rw [show jnA l [(kb,kao,kcap,kl)]=jn l kl from rfl]
  try simp only [List.cons_append,List.nil_append]
  refine qV (qS (qW [] (e':=[]) rfl ?_))
  refine sR ?_
  refine s_vecF kb kao kcap kl Ts ?_
  refine s_optF Td ?_
  rw [show mgF (some kl) l=jn l kl from rfl]
  refine rR rfl ((ja,jc)) (by first | rfl | (first | rfl | (congr 1;done) | (congr 1 <;> first | rfl | omega | (simp;done) | (simp;omega)))) (by trivial) ?_
  exact Tf
 have hk2:ka=none:=by
   cases ka with
   | none=>rfl
   | some _=>simp at hk
 refine s_opt_nil (a:=ka) (m:=km) Tk hk2 fun hkm=>?_
 refine qF (sR ?_)
 rw [show mgF km l=l from by rw [hkm];rfl]
 refine rR rfl ((ao,cap)) (by first | rfl | (first | rfl | (congr 1;done) | (congr 1 <;> first | rfl | omega | (simp;done) | (simp;omega)))) (by trivial) ?_
 exact Tf
theorem releases_spec (k:Int):Spec Try.prog 49 [.int .i64 k] [] (fun (_:Unit)=>.bool (decide (relK k))) (fun _=>True) (fun _=>[]):=by
 refine kP (n:=17) Try.func49 rfl rfl rfl ?_
 intro Γ w0
 simp only [argE,List.cons_append,List.nil_append,Nat.zero_add,Nat.reduceAdd]
 refine qG (qC (.q 0 (.done)) Kr ?_)
 refine qR rfl rfl rfl rfl (qS (qQ (qG (qC (.q 0 (.q 1 (.q 2 (.q 3 (.q 4 (.q 5 (.q 6 (.q 7 (.q 8 (.q 9 (.q 10 (.q 11 (.q 12 (.q 13 (.q 14 (.done)))))))))))))))) Kr ?_))))
 refine qK rfl rfl rfl rfl (qN rfl rfl rfl rfl rfl (cS _ _ _ _) ?_)
 refine qK rfl rfl rfl rfl ?_
 refine cL 5 rfl (fun g_1=>?_) (fun g_1=>?_)
 ·
  refine qY rfl rfl rfl rfl (qY rfl rfl rfl rfl (kZ rfl rfl rfl rfl rfl (qK rfl rfl rfl rfl (qY rfl rfl rfl rfl (qY rfl rfl rfl rfl (kZ rfl rfl rfl rfl rfl (qK rfl rfl rfl rfl (qY rfl rfl rfl rfl ?_))))))))
  refine qY rfl rfl rfl rfl (kZ rfl rfl rfl rfl rfl (qR rfl rfl rfl rfl (qS (qW [2] (e':=[(2,_)]) rfl ?_))))
  refine qQ (qJ (cR rfl rfl (()) (by congr 1;first | (symm;rw [decide_eq_true_eq];unfold relK;omega) | (rw [decide_eq_decide];unfold relK;omega)) (by trivial) ?_))
  exact Tf
 refine qK rfl rfl rfl rfl (qN rfl rfl rfl rfl rfl (cS _ _ _ _) ?_)
 refine kC rfl rfl rfl rfl rfl (qK rfl rfl rfl rfl ?_)
 refine cL 9 rfl (fun g_2=>?_) (fun g_2=>?_)
 ·
  refine qY rfl rfl rfl rfl (qY rfl rfl rfl rfl (kZ rfl rfl rfl rfl rfl (qK rfl rfl rfl rfl (qY rfl rfl rfl rfl (qY rfl rfl rfl rfl (kZ rfl rfl rfl rfl rfl (qR rfl rfl rfl rfl (qS ?_))))))))
  refine qW [2] (e':=[(2,_)]) rfl ?_
  refine qQ (qJ (cR rfl rfl (()) (by congr 1;first | (symm;rw [decide_eq_true_eq];unfold relK;omega) | (rw [decide_eq_decide];unfold relK;omega)) (by trivial) ?_))
  exact Tf
 refine qK rfl rfl rfl rfl (qN rfl rfl rfl rfl rfl (cS _ _ _ _) ?_)
 refine kC rfl rfl rfl rfl rfl (qK rfl rfl rfl rfl ?_)
 refine cL 13 rfl (fun g_3=>?_) (fun g_3=>?_)
 ·
  refine qY rfl rfl rfl rfl (qY rfl rfl rfl rfl (kZ rfl rfl rfl rfl rfl (qR rfl rfl rfl rfl (qS (qW [2] (e':=[(2,_)]) rfl ?_)))))
  refine qQ (qJ (cR rfl rfl (()) (by congr 1;first | (symm;rw [decide_eq_true_eq];unfold relK;omega) | (rw [decide_eq_decide];unfold relK;omega)) (by trivial) ?_))
  exact Tf
 refine qK rfl rfl rfl rfl (qN rfl rfl rfl rfl rfl (cS _ _ _ _) ?_)
 refine kC rfl rfl rfl rfl rfl (qR rfl rfl rfl rfl (qS (qW [2] (e':=[(2,_)]) rfl ?_)))
 refine qQ (qJ (cR rfl rfl (()) (by congr 1;first | (symm;rw [decide_eq_true_eq];unfold relK;omega) | (rw [decide_eq_decide];unfold relK;omega)) (by trivial) ?_))
 exact Tf
theorem leave_spec (db m4:Nat) (v0 v1 v2 v3 v4 v6 v7:Value) (F4:Int × Int→Option (Option Addr)) (rd:Int × Int→Option (List Int × Int)) (b:Nat) (l:List Int) (ao:Option Addr) (cap:Nat) (hl:CV l) (o rr:Int) (p:List Int × Int) (hrd:rd (o,rr)=some p) (hpc:CV p.1) (hp1:1≤p.2∧p.2≤65535):Spec Try.prog 54 [.pointer (some ⟨db,0,none⟩),.pointer (some ⟨b,0,none⟩),.agg #[.int .i64 o,.int .i64 rr]] [cells db 0 [v0,v1,v2,v3,v4,.map (some m4),v6,v7],mapO ek2 evA m4 F4,rest keptA F4 rd [],cells b 0 [.slice ao l.length cap],own 1 encU ao cap l] (fun (r:(Int × Int→Option (Option Addr)) × Option Addr × Nat)=>.tuple #[]) (fun r=>True) (fun r=>[cells db 0 [v0,v1,v2,v3,v4,.map (some m4),v6,v7],mapO ek2 evA m4 r.1,rest keptA r.1 (upd rd (o,rr) (if p.2 - 1≤0 then none else some (p.1,p.2 - 1))) [],cells b 0 [.slice r.2.1 (jn l p.1).length r.2.2],own 1 encU r.2.1 r.2.2 (jn l p.1)]):=by
 refine kP (n:=36) Try.func54 rfl rfl rfl ?_
 intro Γ w0
 simp only [argE,List.cons_append,List.nil_append,Nat.zero_add,Nat.reduceAdd]
 have hll:=hl.len
 refine qG (qC ((.l 0 [] (.done))) Kr ?_)
 refine sX rfl rfl rfl rfl (us:=[_,_]) rfl ?_
 intro b5
 refine qV (qS (qQ (qG (s_rest_take (F:=F4) (T:=rd) (S:=[]) (o,rr) Tk (by simp) hrd fun rv hrF=>?_))))
 refine s_kept Tk fun kb ka kc hka=>?_
 subst hka
 refine kX rfl (.q 0 (.q 1 (.q 2 (.q 3 (.q 4 (.q 5 (.q 6 (.done)))))))) Kr ?_
 refine qK rfl rfl rfl rfl (qX rfl rfl rfl rfl (qL (k:=5) rfl rfl rfl rfl υ'81 rfl ζ'78 rfl ?_))
 refine qP (j:=5) rfl rfl rfl rfl α'78 Tk Az (by rfl) ?_
 refine kN rfl rfl rfl rfl α'125 ζ'125 Tk 0 (us:=[_,_]) Az rfl rfl ?_
 refine sL (ek:=ek2) (ev1:=evA) (F:=F4) (m:=m4) (k:=(o,rr)) none rfl rfl rfl rfl rfl υ'78 (sJ υ'125 rfl rfl rfl rfl υ'3 υ'3 α'3 α'3 Kr) ω'132 Tk ?_
 refine kH 12 rfl (v':=.pointer (some ⟨kb,0,none⟩)) (by rw [hrF];rfl) ?_
 refine qR rfl rfl rfl rfl (qS (qW [0,1,5,6] (e':=[(0,_),(1,_),(5,_),(6,_)]) rfl ?_))
 refine qQ (qG (qC (.q 0 (.q 1 (.q 2 (.q 3 ((.l 4 [] ((.l 5 [] (.done))))))))) Kr ?_))
 refine qK rfl rfl rfl rfl (qK rfl rfl rfl rfl (qX rfl rfl rfl rfl (qL (k:=0) rfl rfl rfl rfl υ'136 rfl ζ'134 rfl ?_)))
 refine kH 16 rfl (v':=.pointer (some ⟨kb,0,none⟩)) (by rfl) ?_
 refine cG rfl rfl rfl rfl (cB (us:=[_]) υ'182 ζ'86 rfl ω'86 rfl rfl rfl) ?_
 intro b17
 refine qV (cK (A:=cells kb 0 [.slice ka p.1.length kc,.int .i64 p.2]) Tk ?_)
 refine kF (fun _ h=>cells_part h) ?_
 refine sH (f:=kf) ?_
 refine kF (fun _ h=>Bun.fold ((by (repeat ((with_reducible apply Z2);focus (first | (with_reducible (repeat (first | exact Z0 | apply Z1));done) | (repeat (first | exact Z0 | apply Z1)))));exact Z3:Takes _ [cells kb 0 [.slice ka p.1.length kc],own 1 encU ka kc p.1] _) _ h)) ?_
 refine rS (f:=kf) (L:=[]) (x:=(kb,ka,kc,p.1)) Ts ?_
 simp only [List.nil_append]
 have sp_1:=Vc.join_spec b l ao l.length cap Ln hl [(kb,ka,kc,p.1)] [(kb,ka,kc,p.1)] (fun x hx=>hx) (by intro x hx;simp at hx;subst hx;exact hpc) (some ⟨b17,0,none⟩) 1 1 (cells b17 0 [.pointer (some ⟨kb,0,none⟩)]) (sW sC) rfl (by decide)
 refine qM rfl rfl rfl rfl rfl rfl κ'89 (sp_1) Ts ?_
 rintro ⟨ja,jc⟩ -
 try simp only [List.cons_append,List.nil_append]
 refine s_big_take (f:=kf) (L:=[(kb,ka,kc,p.1)]) (i:=0) (x:=(kb,ka,kc,p.1)) Tk rfl ?_
 refine s_bun ?_
 try simp only [List.cons_append,List.nil_append,List.eraseIdx_cons_zero]
 rw [show jnA l [(kb,ka,kc,p.1)]=jn l p.1 from rfl]
 try simp only [List.cons_append,List.nil_append]
 refine qV (s_whole (b:=kb) (v:=.slice ka p.1.length kc) (vs:=[.int .i64 p.2]) Ts ?_)
 refine qS (qW [0,5,6] (e':=[(0,_),(5,_),(6,_)]) rfl ?_)
 refine qQ (qG (qC (.q 0 (.q 1 (.q 2 (.q 3 (.q 4 (.q 5 (.q 6 ((.l 7 [] (.done)))))))))) Kr ?_))
 refine qK rfl rfl rfl rfl (qX rfl rfl rfl rfl (qL (k:=1) rfl rfl rfl rfl υ'136 rfl ζ'3 rfl ?_))
 refine qP (j:=1) rfl rfl rfl rfl α'3 Tk Az (by rfl) ?_
 refine qN rfl rfl rfl rfl rfl (b_sub' _ (by exact kG Om Om)) ?_
 refine qX rfl rfl rfl rfl (qL (k:=1) rfl rfl rfl rfl υ'136 rfl ζ'3 rfl ?_)
 refine kR (j:=1) rfl rfl rfl rfl ζ'3 (us:=[_]) rfl rfl rfl Tk Az (by first | decide | (simp;done) | omega) ?_
 simp only [setL,List.set]
 refine qV (qS (qW [0,5,6] (e':=[(0,_),(5,_),(6,_)]) rfl ?_))
 refine qQ (qG (qC (.q 0 (.q 1 (.q 2 (.q 3 (.q 4 (.done)))))) Kr ?_))
 refine qK rfl rfl rfl rfl (qX rfl rfl rfl rfl (qL (k:=1) rfl rfl rfl rfl υ'136 rfl ζ'3 rfl ?_))
 refine qP (j:=1) rfl rfl rfl rfl α'3 Tk Az (by rfl) ?_
 refine qN rfl rfl rfl rfl rfl (cS _ _ _ _) ?_
 refine qS (qW [0,5,30] (e':=[(0,_),(5,_),(30,_)]) rfl ?_)
 refine qQ ?_
 refine qB rfl (fun hz=>?_) (fun hz=>?_)
 ·
  refine kX rfl (.q 0 (.q 1 (.q 2 (.q 3 (.q 4 ((.l 5 [] (.done)))))))) Kr ?_
  refine qK rfl rfl rfl rfl (qX rfl rfl rfl rfl (qL (k:=5) rfl rfl rfl rfl υ'81 rfl ζ'78 rfl ?_))
  refine qP (j:=5) rfl rfl rfl rfl α'78 Tk Az (by rfl) ?_
  refine kN rfl rfl rfl rfl α'125 ζ'125 Tk 0 (us:=[_,_]) Az rfl rfl ?_
  refine l_delete (ek:=ek2) (ev1:=evA) (F:=F4) (m:=m4) (k:=(o,rr)) rfl rfl rfl rfl υ'78 (sJ υ'125 rfl rfl rfl rfl υ'3 υ'3 α'3 α'3 Kr) Tk ?_
  refine qV (qS (qW [] (e':=[]) rfl ?_))
  refine sR ?_
  refine s_rest_none (F:=F4) (T:=rd) (S:=[]) (o,rr) (upd F4 (o,rr) none) (upd rd (o,rr) none) Tk sQ (fun q h _=>sB h) sQ (fun q h _=>sB h) ?_
  rw [if_pos (show p.2 - 1≤0 by omega)]
  refine rR rfl (((upd F4 (o,rr) none),ja,jc)) (by first | rfl | (first | rfl | (congr 1;done) | (congr 1 <;> first | rfl | omega | (simp;done) | (simp;omega)))) (by trivial) ?_
  exact Tf
 refine qF (sR ?_)
 refine s_keptF kb ka kc p.1 (p.2 - 1) Ts ?_
 refine sG (F:=F4) (T:=rd) (S:=[]) (o,rr) F4 (upd rd (o,rr) (some (p.1,p.2 - 1))) Ts (by simp) hrF (fun _ _ _=>rfl) sQ (fun q h _=>sB h) ?_
 rw [if_neg (show ¬ p.2 - 1≤0 by omega)]
 refine rR rfl ((F4,ja,jc)) (by first | rfl | (first | rfl | (congr 1;done) | (congr 1 <;> first | rfl | omega | (simp;done) | (simp;omega)))) (by trivial) ?_
 exact Tf
theorem rel_fork (db:Nat) (v0 v1 v3 v4 v5 v6 v7:Value) (b:Nat) (l:List Int) (ao:Option Addr) (cap:Nat) (hl:CV l) (k:Int) (t:Nat) (o:Int) (ht:t < 65535) (hlt:l.getD t 0 < maxC) (m1:Nat) (F1:Int→Option (Option Addr)) (th:Int→Option (List Int)) (hk:k=7) (ho:0≤o∧o < 65535) (hot:o≠((t:Nat):Int)):Spec Try.prog 55 [.pointer (some ⟨db,0,none⟩),.agg #[.int .i64 k,.int .i64 ((t:Nat):Int),.int .i64 o],.pointer (some ⟨b,0,none⟩)] [cells db 0 [v0,v1,.map (some m1),v3,v4,v5,v6,v7],mapO ekZ evA m1 F1,rest vecA F1 th [((t:Nat):Int)],cells b 0 [.slice ao l.length cap],own 1 encU ao cap l] (fun (r:Option Addr × Nat × (Int→Option (Option Addr)))=>.tuple #[]) (fun r=>r.2.2 ((t:Nat):Int)=F1 ((t:Nat):Int)) (fun r=>[cells db 0 [v0,v1,.map (some m1),v3,v4,v5,v6,v7],mapO ekZ evA m1 r.2.2,rest vecA r.2.2 (upd th o (some (stL l o.toNat 1))) [((t:Nat):Int)],cells b 0 [.slice r.1 (icL l t).length r.2.1],own 1 encU r.1 r.2.1 (icL l t)]):=by
 refine kP (n:=122) Try.func55 rfl rfl rfl ?_
 intro Γ w0
 simp only [argE,List.cons_append,List.nil_append,Nat.zero_add,Nat.reduceAdd]
 have hll:=hl.len
 refine qG (qC ((.l 0 [] (.done))) Kr ?_)
 refine sX rfl rfl rfl rfl (us:=[_,_,_]) rfl ?_
 intro b4
 refine qV (qS (qQ (qG (qG (qC (.q 0 (.q 1 (.done))) Kr ?_)))))
 refine qL (k:=0) rfl rfl rfl rfl υ'36 rfl ζ'34 rfl ?_
 refine qP (j:=0) rfl rfl rfl rfl α'34 Tk Az (by rfl) ?_
 refine qS (qQ (kS (qG (qC (.q 0 (.q 1 (.done))) Kr ?_))))
 refine qN rfl rfl rfl rfl rfl (cS _ _ _ _) ?_
 refine qR rfl rfl rfl rfl (qS (qQ ?_))
 refine qB rfl (fun hg=>?_) (fun hg=>by exfalso;omega)
 refine qG (kX rfl (.q 0 (.q 1 (.q 2 (.q 3 (.q 4 (.q 5 (.q 6 ((.l 7 [3,5] ((.l 8 [] (.done)))))))))))) Kr ?_)
 refine qK rfl rfl rfl rfl (qX rfl rfl rfl rfl (qL (k:=2) rfl rfl rfl rfl υ'81 rfl ζ'77 rfl ?_))
 refine qP (j:=2) rfl rfl rfl rfl α'77 Tk Az (by rfl) ?_
 refine qL (k:=2) rfl rfl rfl rfl υ'36 rfl ζ'3 rfl ?_
 refine qP (j:=2) rfl rfl rfl rfl α'3 Tk Az (by rfl) ?_
 refine qK rfl rfl rfl rfl ?_
 have sp_1:=Vc.copy_spec b l ao l.length cap (by rfl) Om
 refine qM rfl rfl rfl rfl rfl rfl κ'65 (sp_1) Ts ?_
 rintro ⟨ub,ua,uc⟩ -
 try simp only [List.cons_append,List.nil_append]
 refine qH (q:=2) rfl rfl rfl α'77 Tk Az (by rfl) ?_
 refine qH (q:=2) rfl rfl rfl α'3 Tk Az (by rfl) ?_
 refine qV (sF (ek:=ekZ) (ev1:=evA) (F:=F1) (m:=m1) (k:=o) (v:=(some ⟨ub,0,none⟩:Option Addr)) (by first | exact .inl rfl | exact .inr rfl) rfl rfl rfl rfl υ'77 (cW υ'3) Tk ?_)
 refine qV (qS (qW [0,2,4] (e':=[(0,_),(2,_),(4,_)]) rfl ?_))
 refine qQ (kX rfl (.q 0 (.q 1 (.q 2 (.q 3 (.q 4 (.q 5 (.q 6 (.q 7 (.q 8 ((.l 9 [] (.done)))))))))))) Kr ?_)
 refine qK rfl rfl rfl rfl (qX rfl rfl rfl rfl (qL (k:=2) rfl rfl rfl rfl υ'81 rfl ζ'77 rfl ?_))
 refine qP (j:=2) rfl rfl rfl rfl α'77 Tk Az (by rfl) ?_
 refine qL (k:=2) rfl rfl rfl rfl υ'36 rfl ζ'3 rfl ?_
 refine qP (j:=2) rfl rfl rfl rfl α'3 Tk Az (by rfl) ?_
 refine sL (ek:=ekZ) (ev1:=evA) (F:=(upd F1 o (some (some ⟨ub,0,none⟩:Option Addr)))) (m:=m1) (k:=o) none rfl rfl rfl rfl rfl υ'77 (cW υ'3) ω'86 Tk ?_
 refine kH 27 rfl (v':=.pointer (some ⟨ub,0,none⟩)) (by simp only [sQ];rfl) ?_
 refine qL (k:=2) rfl rfl rfl rfl υ'36 rfl ζ'3 rfl ?_
 refine qP (j:=2) rfl rfl rfl rfl α'3 Tk Az (by rfl) ?_
 have sp_2:=set_z ub l ua l.length uc Ln hl o Om Om 1 (by decide) (by decide)
 refine qM rfl rfl rfl rfl rfl rfl κ'30 (sp_2) Ts ?_
 rintro ⟨sa,sc⟩ -
 try simp only [List.cons_append,List.nil_append]
 refine qV (qS (qW [2,4] (e':=[(2,_),(4,_)]) rfl ?_))
 refine kK (qQ (qC (.q 0 (.q 1 (.q 2 ((.l 3 [] (.done)))))) Kr ?_))
 refine qK rfl rfl rfl rfl (qL (k:=1) rfl rfl rfl rfl υ'36 rfl ζ'3 rfl ?_)
 refine qP (j:=1) rfl rfl rfl rfl α'3 Tk Az (by rfl) ?_
 have sp_3:=Vc.inc_spec b l ao l.length cap Ln hl t Om (by exact hlt)
 refine qM rfl rfl rfl rfl rfl rfl κ'90 (sp_3) Ts ?_
 rintro ⟨ia,ic⟩ -
 try simp only [List.cons_append,List.nil_append]
 refine qV (qS (qW [] (e':=[]) rfl ?_))
 refine sR ?_
 refine s_rest_opt (F:=F1) (T:=th) (S:=[((t:Nat):Int)]) o Tk (by simpa using hot) fun hso=>?_
 refine s_vecF ub sa sc (stL l o.toNat 1) Ts ?_
 refine sG (F:=F1) (T:=th) (S:=[((t:Nat):Int)]) o (upd F1 o (some (some ⟨ub,0,none⟩:Option Addr))) (upd th o (some (stL l o.toNat 1))) Ts (by simpa using hot) sQ (fun q h _=>sB h) sQ (fun q h _=>sB h) ?_
 refine rR rfl ((ia,ic,upd F1 o (some (some ⟨ub,0,none⟩:Option Addr)))) (by first | rfl | (first | rfl | (congr 1;done) | (congr 1 <;> first | rfl | omega | (simp;done) | (simp;omega)))) (by exact sB (Ne.symm hot)) ?_
 exact Tf
theorem rel_unlock (db:Nat) (v0 v1 v2 v4 v5 v6 v7:Value) (b:Nat) (l:List Int) (ao:Option Addr) (cap:Nat) (hl:CV l) (k:Int) (t:Nat) (o:Int) (ht:t < 65535) (hlt:l.getD t 0 < maxC) (m2:Nat) (F2:Int→Option (Option Addr)) (lk:Int→Option (List Int)) (hk:k=6):Spec Try.prog 55 [.pointer (some ⟨db,0,none⟩),.agg #[.int .i64 k,.int .i64 ((t:Nat):Int),.int .i64 o],.pointer (some ⟨b,0,none⟩)] [cells db 0 [v0,v1,v2,.map (some m2),v4,v5,v6,v7],mapO ekZ evA m2 F2,rest vecA F2 lk [],cells b 0 [.slice ao l.length cap],own 1 encU ao cap l] (fun (r:Option Addr × Nat × (Int→Option (Option Addr)))=>.tuple #[]) (fun r=>True) (fun r=>[cells db 0 [v0,v1,v2,.map (some m2),v4,v5,v6,v7],mapO ekZ evA m2 r.2.2,rest vecA r.2.2 (upd lk o (some l)) [],cells b 0 [.slice r.1 (icL l t).length r.2.1],own 1 encU r.1 r.2.1 (icL l t)]):=by
 refine kP (n:=122) Try.func55 rfl rfl rfl ?_
 intro Γ w0
 simp only [argE,List.cons_append,List.nil_append,Nat.zero_add,Nat.reduceAdd]
 have hll:=hl.len
 refine qG (qC ((.l 0 [] (.done))) Kr ?_)
 refine sX rfl rfl rfl rfl (us:=[_,_,_]) rfl ?_
 intro b4
 refine qV (qS (qQ (qG (qG (qC (.q 0 (.q 1 (.done))) Kr ?_)))))
 refine qL (k:=0) rfl rfl rfl rfl υ'36 rfl ζ'34 rfl ?_
 refine qP (j:=0) rfl rfl rfl rfl α'34 Tk Az (by rfl) ?_
 refine qS (qQ (kS (qG (qC (.q 0 (.q 1 (.done))) Kr ?_))))
 refine qN rfl rfl rfl rfl rfl (cS _ _ _ _) ?_
 refine qR rfl rfl rfl rfl (qS (qQ ?_))
 refine qB rfl (fun hg=>by exfalso;omega) (fun hg=>?_)
 refine qG (qC (.q 0 (.q 1 (.done))) Kr ?_)
 refine qN rfl rfl rfl rfl rfl (cS _ _ _ _) ?_
 refine qR rfl rfl rfl rfl (qS (qW [0,2,4,10,31] (e':=[(0,_),(2,_),(4,_),(10,_),(31,_)]) rfl ?_))
 refine qQ ?_
 refine qB rfl (fun hg=>?_) (fun hg=>by exfalso;omega)
 refine kX rfl (.q 0 (.q 1 (.q 2 (.q 3 (.q 4 (.q 5 (.q 6 ((.l 7 [3,5] ((.l 8 [] (.done)))))))))))) Kr ?_
 refine qK rfl rfl rfl rfl (qX rfl rfl rfl rfl (qL (k:=3) rfl rfl rfl rfl υ'81 rfl ζ'77 rfl ?_))
 refine qP (j:=3) rfl rfl rfl rfl α'77 Tk Az (by rfl) ?_
 refine qL (k:=2) rfl rfl rfl rfl υ'36 rfl ζ'3 rfl ?_
 refine qP (j:=2) rfl rfl rfl rfl α'3 Tk Az (by rfl) ?_
 refine qK rfl rfl rfl rfl ?_
 have sp_1:=Vc.copy_spec b l ao l.length cap (by rfl) Om
 refine qM rfl rfl rfl rfl rfl rfl κ'65 (sp_1) Ts ?_
 rintro ⟨ub,ua,uc⟩ -
 try simp only [List.cons_append,List.nil_append]
 refine qH (q:=3) rfl rfl rfl α'77 Tk Az (by rfl) ?_
 refine qH (q:=2) rfl rfl rfl α'3 Tk Az (by rfl) ?_
 refine qV (sF (ek:=ekZ) (ev1:=evA) (F:=F2) (m:=m2) (k:=o) (v:=(some ⟨ub,0,none⟩:Option Addr)) (by first | exact .inl rfl | exact .inr rfl) rfl rfl rfl rfl υ'77 (cW υ'3) Tk ?_)
 refine qV (qS (qW [2,4] (e':=[(2,_),(4,_)]) rfl ?_))
 refine kK (qQ (qC (.q 0 (.q 1 (.q 2 ((.l 3 [] (.done)))))) Kr ?_))
 refine qK rfl rfl rfl rfl (qL (k:=1) rfl rfl rfl rfl υ'36 rfl ζ'3 rfl ?_)
 refine qP (j:=1) rfl rfl rfl rfl α'3 Tk Az (by rfl) ?_
 have sp_2:=Vc.inc_spec b l ao l.length cap Ln hl t Om (by exact hlt)
 refine qM rfl rfl rfl rfl rfl rfl κ'90 (sp_2) Ts ?_
 rintro ⟨ia,ic⟩ -
 try simp only [List.cons_append,List.nil_append]
 refine qV (qS (qW [] (e':=[]) rfl ?_))
 refine sR ?_
 refine s_rest_opt (F:=F2) (T:=lk) (S:=[]) o Tk (by simp) fun hso=>?_
 refine s_vecF ub ua uc l Ts ?_
 refine sG (F:=F2) (T:=lk) (S:=[]) o (upd F2 o (some (some ⟨ub,0,none⟩:Option Addr))) (upd lk o (some l)) Ts (by simp) sQ (fun q h _=>sB h) sQ (fun q h _=>sB h) ?_
 refine rR rfl ((ia,ic,upd F2 o (some (some ⟨ub,0,none⟩:Option Addr)))) (by first | rfl | (first | rfl | (congr 1;done) | (congr 1 <;> first | rfl | omega | (simp;done) | (simp;omega)))) (by trivial) ?_
 exact Tf
theorem rel_set0 (db:Nat) (v0 v1 v2 v3 v5 v6 v7:Value) (b:Nat) (l:List Int) (ao:Option Addr) (cap:Nat) (hl:CV l) (k:Int) (t:Nat) (o:Int) (ht:t < 65535) (hlt:l.getD t 0 < maxC) (m3:Nat) (F3:Int→Option (Option Addr)) (vo:Int→Option (List Int)) (hk:k=4) (hq:vo o=none):Spec Try.prog 55 [.pointer (some ⟨db,0,none⟩),.agg #[.int .i64 k,.int .i64 ((t:Nat):Int),.int .i64 o],.pointer (some ⟨b,0,none⟩)] [cells db 0 [v0,v1,v2,v3,.map (some m3),v5,v6,v7],mapO ekZ evA m3 F3,rest vecA F3 vo [],cells b 0 [.slice ao l.length cap],own 1 encU ao cap l] (fun (r:Option Addr × Nat × (Int→Option (Option Addr)))=>.tuple #[]) (fun r=>True) (fun r=>[cells db 0 [v0,v1,v2,v3,.map (some m3),v5,v6,v7],mapO ekZ evA m3 r.2.2,rest vecA r.2.2 (upd vo o (some (mgF (vo o) l))) [],cells b 0 [.slice r.1 (icL l t).length r.2.1],own 1 encU r.1 r.2.1 (icL l t)]):=by
 refine kP (n:=122) Try.func55 rfl rfl rfl ?_
 intro Γ w0
 simp only [argE,List.cons_append,List.nil_append,Nat.zero_add,Nat.reduceAdd]
 have hll:=hl.len
 refine qG (qC ((.l 0 [] (.done))) Kr ?_)
 refine sX rfl rfl rfl rfl (us:=[_,_,_]) rfl ?_
 intro b4
 refine qV (qS (qQ (qG (qG (qC (.q 0 (.q 1 (.done))) Kr ?_)))))
 refine qL (k:=0) rfl rfl rfl rfl υ'36 rfl ζ'34 rfl ?_
 refine qP (j:=0) rfl rfl rfl rfl α'34 Tk Az (by rfl) ?_
 refine qS (qQ (kS (qG (qC (.q 0 (.q 1 (.done))) Kr ?_))))
 refine qN rfl rfl rfl rfl rfl (cS _ _ _ _) ?_
 refine qR rfl rfl rfl rfl (qS (qQ ?_))
 refine qB rfl (fun hg=>by exfalso;omega) (fun hg=>?_)
 refine qG (qC (.q 0 (.q 1 (.done))) Kr ?_)
 refine qN rfl rfl rfl rfl rfl (cS _ _ _ _) ?_
 refine qR rfl rfl rfl rfl (qS (qW [0,2,4,10,31] (e':=[(0,_),(2,_),(4,_),(10,_),(31,_)]) rfl ?_))
 refine qQ ?_
 refine qB rfl (fun hg=>by exfalso;omega) (fun hg=>?_)
 refine qG (qC (.q 0 (.q 1 (.done))) Kr ?_)
 refine qN rfl rfl rfl rfl rfl (cS _ _ _ _) ?_
 refine qR rfl rfl rfl rfl (qS (qQ ?_))
 refine qB rfl (fun hg=>?_) (fun hg=>by exfalso;omega)
 refine qG (qG (s_rest_miss (F:=F3) (T:=vo) (S:=[]) o Tk (by simp) hq fun hqF=>?_))
 refine kX rfl (.q 0 (.q 1 (.q 2 (.q 3 (.q 4 (.q 5 (.q 6 (.q 7 (.done))))))))) Kr ?_
 refine qK rfl rfl rfl rfl (qX rfl rfl rfl rfl (qL (k:=4) rfl rfl rfl rfl υ'81 rfl ζ'77 rfl ?_))
 refine qP (j:=4) rfl rfl rfl rfl α'77 Tk Az (by rfl) ?_
 refine qL (k:=2) rfl rfl rfl rfl υ'36 rfl ζ'3 rfl ?_
 refine qP (j:=2) rfl rfl rfl rfl α'3 Tk Az (by rfl) ?_
 refine sL (ek:=ekZ) (ev1:=evA) (F:=F3) (m:=m3) (k:=o) none rfl rfl rfl rfl rfl υ'77 (cW υ'3) ω'86 Tk ?_
 refine kH 49 rfl (v':=.pointer none) (by rw [hqF];rfl) ?_
 refine cY rfl rfl rfl rfl υ'86 ?_
 refine kH 50 rfl (v':=.bool true) rfl ?_
 refine qS (qW [0,2,4,50] (e':=[(0,_),(2,_),(4,_),(50,_)]) rfl ?_)
 refine qQ (cN rfl ?_)
 refine kX rfl (.q 0 (.q 1 (.q 2 (.q 3 (.q 4 (.q 5 ((.l 6 [3,5] ((.l 7 [] (.done))))))))))) Kr ?_
 refine qK rfl rfl rfl rfl (qX rfl rfl rfl rfl (qL (k:=4) rfl rfl rfl rfl υ'81 rfl ζ'77 rfl ?_))
 refine qP (j:=4) rfl rfl rfl rfl α'77 Tk Az (by rfl) ?_
 refine qL (k:=2) rfl rfl rfl rfl υ'36 rfl ζ'3 rfl ?_
 refine qP (j:=2) rfl rfl rfl rfl α'3 Tk Az (by rfl) ?_
 have sp_1:=cnew_spec
 refine qM rfl rfl rfl rfl rfl rfl κ'29 (sp_1) Ts ?_
 rintro qb -
 try simp only [List.cons_append,List.nil_append]
 refine qH (q:=4) rfl rfl rfl α'77 Tk Az (by rfl) ?_
 refine qH (q:=2) rfl rfl rfl α'3 Tk Az (by rfl) ?_
 refine qV (sF (ek:=ekZ) (ev1:=evA) (F:=F3) (m:=m3) (k:=o) (v:=(some ⟨qb,0,none⟩:Option Addr)) (by first | exact .inl rfl | exact .inr rfl) rfl rfl rfl rfl υ'77 (cW υ'3) Tk ?_)
 refine qV (qS (qW [0,2,4] (e':=[(0,_),(2,_),(4,_)]) rfl ?_))
 refine qQ (kF (fun _ h=>cJ (sz:=1) (enc:=encU) h) ?_)
 refine kX rfl (.q 0 (.q 1 (.q 2 (.q 3 (.q 4 (.q 5 (.q 6 (.q 7 ((.l 8 [3,5,6] ((.l 9 [] (.done))))))))))))) Kr ?_
 refine qK rfl rfl rfl rfl (qX rfl rfl rfl rfl (qL (k:=4) rfl rfl rfl rfl υ'81 rfl ζ'77 rfl ?_))
 refine qP (j:=4) rfl rfl rfl rfl α'77 Tk Az (by rfl) ?_
 refine qL (k:=2) rfl rfl rfl rfl υ'36 rfl ζ'3 rfl ?_
 refine qP (j:=2) rfl rfl rfl rfl α'3 Tk Az (by rfl) ?_
 refine sL (ek:=ekZ) (ev1:=evA) (F:=(upd F3 o (some (some ⟨qb,0,none⟩:Option Addr)))) (m:=m3) (k:=o) none rfl rfl rfl rfl rfl υ'77 (cW υ'3) ω'86 Tk ?_
 refine kH 64 rfl (v':=.pointer (some ⟨qb,0,none⟩)) (by simp only [sQ];rfl) ?_
 refine qK rfl rfl rfl rfl (cG rfl rfl rfl rfl (cB (us:=[_]) υ'182 ζ'86 rfl ω'86 rfl rfl rfl) ?_)
 intro b66
 refine qH (q:=4) rfl rfl rfl α'77 Tk Az (by rfl) ?_
 refine qH (q:=2) rfl rfl rfl α'3 Tk Az (by rfl) ?_
 refine ag_lookup1 (ek:=ekZ) (ev1:=evA) (F:=(upd F3 o (some (some ⟨qb,0,none⟩:Option Addr)))) (m:=m3) (k:=o) none rfl rfl (by first | rfl | (simp only [sQ];rfl)) rfl rfl υ'77 (cW υ'3) ω'86 Tk ?_
 refine qV (sH (f:=kf) ?_)
 refine kF (fun _ h=>Bun.fold ((by (repeat ((with_reducible apply Z2);focus (first | (with_reducible (repeat (first | exact Z0 | apply Z1));done) | (repeat (first | exact Z0 | apply Z1)))));exact Z3:Takes _ [cells b 0 [.slice ao l.length cap],own 1 encU ao cap l] _) _ h)) ?_
 refine rS (f:=kf) (L:=[]) (x:=(b,ao,cap,l)) Ts ?_
 simp only [List.nil_append]
 have sp_2:=Vc.join_spec qb ([]:List Int) none (([]:List Int).length) 0 Ln nil_cv [(b,ao,cap,l)] [(b,ao,cap,l)] (fun x hx=>hx) (by intro x hx;simp at hx;subst hx;exact hl) (some ⟨b66,0,none⟩) 1 1 (cells b66 0 [.pointer (some ⟨b,0,none⟩)]) (sW sC) rfl (by decide)
 refine qM rfl rfl rfl rfl rfl rfl κ'89 (sp_2) Ts ?_
 rintro ⟨ja,jc⟩ -
 try simp only [List.cons_append,List.nil_append]
 refine s_big_take (f:=kf) (L:=[(b,ao,cap,l)]) (i:=0) (x:=(b,ao,cap,l)) Tk rfl ?_
 refine s_bun ?_
 try simp only [List.cons_append,List.nil_append,List.eraseIdx_cons_zero]
 rw [show jnA ([]:List Int) [(b,ao,cap,l)]=jn ([]:List Int) l from rfl]
 try simp only [List.cons_append,List.nil_append]
 refine qV (qS (qW [2,4] (e':=[(2,_),(4,_)]) rfl ?_))
 refine kK (qQ (qC (.q 0 (.q 1 (.q 2 ((.l 3 [] (.done)))))) Kr ?_))
 refine qK rfl rfl rfl rfl (qL (k:=1) rfl rfl rfl rfl υ'36 rfl ζ'3 rfl ?_)
 refine qP (j:=1) rfl rfl rfl rfl α'3 Tk Az (by rfl) ?_
 have sp_3:=Vc.inc_spec b l ao l.length cap Ln hl t Om (by exact hlt)
 refine qM rfl rfl rfl rfl rfl rfl κ'90 (sp_3) Ts ?_
 rintro ⟨ia,ic⟩ -
 try simp only [List.cons_append,List.nil_append]
 refine qV (qS (qW [] (e':=[]) rfl ?_))
 refine sR ?_
 rw [show mgF (vo o) l=jn [] l from by rw [hq];exact (jn_nil hl).symm]
 refine s_vecF qb ja jc (jn [] l) Ts ?_
 refine sG (F:=F3) (T:=vo) (S:=[]) o (upd F3 o (some (some ⟨qb,0,none⟩:Option Addr))) (upd vo o (some (jn [] l))) Ts (by simp) sQ (fun q h _=>sB h) sQ (fun q h _=>sB h) ?_
 refine rR rfl ((ia,ic,upd F3 o (some (some ⟨qb,0,none⟩:Option Addr)))) (by first | rfl | (first | rfl | (congr 1;done) | (congr 1 <;> first | rfl | omega | (simp;done) | (simp;omega)))) (by trivial) ?_
 exact Tf
theorem rel_set1 (db:Nat) (v0 v1 v2 v3 v5 v6 v7:Value) (b:Nat) (l:List Int) (ao:Option Addr) (cap:Nat) (hl:CV l) (k:Int) (t:Nat) (o:Int) (ht:t < 65535) (hlt:l.getD t 0 < maxC) (m3:Nat) (F3:Int→Option (Option Addr)) (vo:Int→Option (List Int)) (hk:k=4) (q:List Int) (hq:vo o=some q) (hqc:CV q):Spec Try.prog 55 [.pointer (some ⟨db,0,none⟩),.agg #[.int .i64 k,.int .i64 ((t:Nat):Int),.int .i64 o],.pointer (some ⟨b,0,none⟩)] [cells db 0 [v0,v1,v2,v3,.map (some m3),v5,v6,v7],mapO ekZ evA m3 F3,rest vecA F3 vo [],cells b 0 [.slice ao l.length cap],own 1 encU ao cap l] (fun (r:Option Addr × Nat × (Int→Option (Option Addr)))=>.tuple #[]) (fun r=>True) (fun r=>[cells db 0 [v0,v1,v2,v3,.map (some m3),v5,v6,v7],mapO ekZ evA m3 r.2.2,rest vecA r.2.2 (upd vo o (some (mgF (vo o) l))) [],cells b 0 [.slice r.1 (icL l t).length r.2.1],own 1 encU r.1 r.2.1 (icL l t)]):=by
 refine kP (n:=122) Try.func55 rfl rfl rfl ?_
 intro Γ w0
 simp only [argE,List.cons_append,List.nil_append,Nat.zero_add,Nat.reduceAdd]
 have hll:=hl.len
 refine qG (qC ((.l 0 [] (.done))) Kr ?_)
 refine sX rfl rfl rfl rfl (us:=[_,_,_]) rfl ?_
 intro b4
 refine qV (qS (qQ (qG (qG (qC (.q 0 (.q 1 (.done))) Kr ?_)))))
 refine qL (k:=0) rfl rfl rfl rfl υ'36 rfl ζ'34 rfl ?_
 refine qP (j:=0) rfl rfl rfl rfl α'34 Tk Az (by rfl) ?_
 refine qS (qQ (kS (qG (qC (.q 0 (.q 1 (.done))) Kr ?_))))
 refine qN rfl rfl rfl rfl rfl (cS _ _ _ _) ?_
 refine qR rfl rfl rfl rfl (qS (qQ ?_))
 refine qB rfl (fun hg=>by exfalso;omega) (fun hg=>?_)
 refine qG (qC (.q 0 (.q 1 (.done))) Kr ?_)
 refine qN rfl rfl rfl rfl rfl (cS _ _ _ _) ?_
 refine qR rfl rfl rfl rfl (qS (qW [0,2,4,10,31] (e':=[(0,_),(2,_),(4,_),(10,_),(31,_)]) rfl ?_))
 refine qQ ?_
 refine qB rfl (fun hg=>by exfalso;omega) (fun hg=>?_)
 refine qG (qC (.q 0 (.q 1 (.done))) Kr ?_)
 refine qN rfl rfl rfl rfl rfl (cS _ _ _ _) ?_
 refine qR rfl rfl rfl rfl (qS (qQ ?_))
 refine qB rfl (fun hg=>?_) (fun hg=>by exfalso;omega)
 refine qG (qG (s_rest_take (F:=F3) (T:=vo) (S:=[]) o Tk (by simp) hq fun qv hqF=>?_))
 refine s_vec Tk fun qb qa qc hqa=>?_
 subst hqa
 refine kX rfl (.q 0 (.q 1 (.q 2 (.q 3 (.q 4 (.q 5 (.q 6 (.q 7 (.done))))))))) Kr ?_
 refine qK rfl rfl rfl rfl (qX rfl rfl rfl rfl (qL (k:=4) rfl rfl rfl rfl υ'81 rfl ζ'77 rfl ?_))
 refine qP (j:=4) rfl rfl rfl rfl α'77 Tk Az (by rfl) ?_
 refine qL (k:=2) rfl rfl rfl rfl υ'36 rfl ζ'3 rfl ?_
 refine qP (j:=2) rfl rfl rfl rfl α'3 Tk Az (by rfl) ?_
 refine sL (ek:=ekZ) (ev1:=evA) (F:=F3) (m:=m3) (k:=o) none rfl rfl rfl rfl rfl υ'77 (cW υ'3) ω'86 Tk ?_
 refine kH 49 rfl (v':=.pointer (some ⟨qb,0,none⟩)) (by rw [hqF];rfl) ?_
 refine cY rfl rfl rfl rfl υ'86 ?_
 refine kH 50 rfl (v':=.bool false) rfl ?_
 refine qS (qW [0,2,4,50] (e':=[(0,_),(2,_),(4,_),(50,_)]) rfl ?_)
 refine qQ (kB rfl ?_)
 refine qF (qQ (kX rfl (.q 0 (.q 1 (.q 2 (.q 3 (.q 4 (.q 5 (.q 6 (.q 7 ((.l 8 [3,5,6] ((.l 9 [] (.done))))))))))))) Kr ?_))
 refine qK rfl rfl rfl rfl (qX rfl rfl rfl rfl (qL (k:=4) rfl rfl rfl rfl υ'81 rfl ζ'77 rfl ?_))
 refine qP (j:=4) rfl rfl rfl rfl α'77 Tk Az (by rfl) ?_
 refine qL (k:=2) rfl rfl rfl rfl υ'36 rfl ζ'3 rfl ?_
 refine qP (j:=2) rfl rfl rfl rfl α'3 Tk Az (by rfl) ?_
 refine sL (ek:=ekZ) (ev1:=evA) (F:=F3) (m:=m3) (k:=o) none rfl rfl rfl rfl rfl υ'77 (cW υ'3) ω'86 Tk ?_
 refine kH 64 rfl (v':=.pointer (some ⟨qb,0,none⟩)) (by rw [hqF];rfl) ?_
 refine qK rfl rfl rfl rfl (cG rfl rfl rfl rfl (cB (us:=[_]) υ'182 ζ'86 rfl ω'86 rfl rfl rfl) ?_)
 intro b66
 refine qH (q:=4) rfl rfl rfl α'77 Tk Az (by rfl) ?_
 refine qH (q:=2) rfl rfl rfl α'3 Tk Az (by rfl) ?_
 refine ag_lookup1 (ek:=ekZ) (ev1:=evA) (F:=F3) (m:=m3) (k:=o) none rfl rfl (by first | rfl | (rw [hqF];rfl)) rfl rfl υ'77 (cW υ'3) ω'86 Tk ?_
 refine qV (sH (f:=kf) ?_)
 refine kF (fun _ h=>Bun.fold ((by (repeat ((with_reducible apply Z2);focus (first | (with_reducible (repeat (first | exact Z0 | apply Z1));done) | (repeat (first | exact Z0 | apply Z1)))));exact Z3:Takes _ [cells b 0 [.slice ao l.length cap],own 1 encU ao cap l] _) _ h)) ?_
 refine rS (f:=kf) (L:=[]) (x:=(b,ao,cap,l)) Ts ?_
 simp only [List.nil_append]
 have sp_1:=Vc.join_spec qb q qa q.length qc Ln hqc [(b,ao,cap,l)] [(b,ao,cap,l)] (fun x hx=>hx) (by intro x hx;simp at hx;subst hx;exact hl) (some ⟨b66,0,none⟩) 1 1 (cells b66 0 [.pointer (some ⟨b,0,none⟩)]) (sW sC) rfl (by decide)
 refine qM rfl rfl rfl rfl rfl rfl κ'89 (sp_1) Ts ?_
 rintro ⟨ja,jc⟩ -
 try simp only [List.cons_append,List.nil_append]
 refine s_big_take (f:=kf) (L:=[(b,ao,cap,l)]) (i:=0) (x:=(b,ao,cap,l)) Tk rfl ?_
 refine s_bun ?_
 try simp only [List.cons_append,List.nil_append,List.eraseIdx_cons_zero]
 rw [show jnA q [(b,ao,cap,l)]=jn q l from rfl]
 try simp only [List.cons_append,List.nil_append]
 refine qV (qS (qW [2,4] (e':=[(2,_),(4,_)]) rfl ?_))
 refine kK (qQ (qC (.q 0 (.q 1 (.q 2 ((.l 3 [] (.done)))))) Kr ?_))
 refine qK rfl rfl rfl rfl (qL (k:=1) rfl rfl rfl rfl υ'36 rfl ζ'3 rfl ?_)
 refine qP (j:=1) rfl rfl rfl rfl α'3 Tk Az (by rfl) ?_
 have sp_2:=Vc.inc_spec b l ao l.length cap Ln hl t Om (by exact hlt)
 refine qM rfl rfl rfl rfl rfl rfl κ'90 (sp_2) Ts ?_
 rintro ⟨ia,ic⟩ -
 try simp only [List.cons_append,List.nil_append]
 refine qV (qS (qW [] (e':=[]) rfl ?_))
 refine sR ?_
 rw [show mgF (vo o) l=jn q l from by rw [hq];exact jn_comm hl hqc]
 refine s_vecF qb ja jc (jn q l) Ts ?_
 refine sG (F:=F3) (T:=vo) (S:=[]) o F3 (upd vo o (some (jn q l))) Ts (by simp) hqF (fun _ _ _=>rfl) sQ (fun q h _=>sB h) ?_
 refine rR rfl ((ia,ic,F3)) (by first | rfl | (first | rfl | (congr 1;done) | (congr 1 <;> first | rfl | omega | (simp;done) | (simp;omega)))) (by trivial) ?_
 exact Tf
theorem rel_arr0 (db:Nat) (v2 v3 v4 v6 v7:Value) (b:Nat) (l:List Int) (ao:Option Addr) (cap:Nat) (hl:CV l) (k:Int) (t:Nat) (o:Int) (ht:t < 65535) (hlt:l.getD t 0 < maxC) (cb pn:Nat) (pa:Option Addr) (pc:Nat) (x:CS) (hx:CInv x) (pl:List Int) (hpn:pn=pl.length) (po:Option Addr) (poc:Nat) (pp:Int) (hpp:pl[o.toNat]?=some pp) (ho:0≤o) (hpb:pl.length≤4096) (rr:Int) (hst:stF x ((t:Nat):Int)=(2,o,rr)) (m4:Nat) (F4:Int × Int→Option (Option Addr)) (rd:Int × Int→Option (List Int × Int)) (hk:k=9) (hq:rd (o,rr)=none):Spec Try.prog 55 [.pointer (some ⟨db,0,none⟩),.agg #[.int .i64 k,.int .i64 ((t:Nat):Int),.int .i64 o],.pointer (some ⟨b,0,none⟩)] [cells db 0 [.pointer (some ⟨cb,0,none⟩),.slice po pn poc,v2,v3,v4,.map (some m4),v6,v7],ck pa pc cb x,own 1 encZ po poc pl,mapO ek2 evA m4 F4,rest keptA F4 rd [] , cells b 0 [.slice ao l.length cap],own 1 encU ao cap l] (fun (r:Option Addr × Nat × (Int × Int→Option (Option Addr)))=>.tuple #[]) (fun r=>True) (fun r=>[cells db 0 [.pointer (some ⟨cb,0,none⟩),.slice po pn poc,v2,v3,v4,.map (some m4),v6,v7],ck pa pc cb x,own 1 encZ po poc pl,mapO ek2 evA m4 r.2.2,rest keptA r.2.2 (upd rd (o,rr) (some (mgF ((rd (o,rr)).map (·.1)) l,pp))) [],cells b 0 [.slice r.1 (icL l t).length r.2.1],own 1 encU r.1 r.2.1 (icL l t)]):=by
 refine kP (n:=122) Try.func55 rfl rfl rfl ?_
 intro Γ w0
 simp only [argE,List.cons_append,List.nil_append,Nat.zero_add,Nat.reduceAdd]
 have hll:=hl.len
 have hol:=(List.getElem?_eq_some_iff.1 hpp).1
 refine qG (qC ((.l 0 [] (.done))) Kr ?_)
 refine sX rfl rfl rfl rfl (us:=[_,_,_]) rfl ?_
 intro b4
 refine qV (qS (qQ (qG (qG (qC (.q 0 (.q 1 (.done))) Kr ?_)))))
 refine qL (k:=0) rfl rfl rfl rfl υ'36 rfl ζ'34 rfl ?_
 refine qP (j:=0) rfl rfl rfl rfl α'34 Tk Az (by rfl) ?_
 refine qS (qQ (kS (qG (qC (.q 0 (.q 1 (.done))) Kr ?_))))
 refine qN rfl rfl rfl rfl rfl (cS _ _ _ _) ?_
 refine qR rfl rfl rfl rfl (qS (qQ ?_))
 refine qB rfl (fun hg=>by exfalso;omega) (fun hg=>?_)
 refine qG (qC (.q 0 (.q 1 (.done))) Kr ?_)
 refine qN rfl rfl rfl rfl rfl (cS _ _ _ _) ?_
 refine qR rfl rfl rfl rfl (qS (qW [0,2,4,10,31] (e':=[(0,_),(2,_),(4,_),(10,_),(31,_)]) rfl ?_))
 refine qQ ?_
 refine qB rfl (fun hg=>by exfalso;omega) (fun hg=>?_)
 refine qG (qC (.q 0 (.q 1 (.done))) Kr ?_)
 refine qN rfl rfl rfl rfl rfl (cS _ _ _ _) ?_
 refine qR rfl rfl rfl rfl (qS (qQ ?_))
 refine qB rfl (fun hg=>by exfalso;omega) (fun hg=>?_)
 refine qG (qC (.q 0 (.q 1 (.done))) Kr ?_)
 refine qN rfl rfl rfl rfl rfl (cS _ _ _ _) ?_
 refine qR rfl rfl rfl rfl (qS (qW [0,2,4,68] (e':=[(0,_),(2,_),(4,_),(68,_)]) rfl ?_))
 refine qQ ?_
 refine qB rfl (fun hg=>?_) (fun hg=>by exfalso;omega)
 refine qG (kX rfl (.q 0 (.q 1 (.q 2 (.q 3 (.q 4 (.q 5 ((.alt (.l 6 [] (.q 7 (.q 8 (.q 9 ((.l 10 [] ((.l 11 [] (.q 12 (.done)))))))))) (.l 10 [3,5] ((.l 6 [] (.q 7 (.q 8 (.q 9 ((.l 11 [] (.q 12 (.done)))))))))))))))))) Kr ?_)
 refine qK rfl rfl rfl rfl (qX rfl rfl rfl rfl (qL (k:=0) rfl rfl rfl rfl υ'81 rfl ζ'76 rfl ?_))
 refine qP (j:=0) rfl rfl rfl rfl α'76 Tk Az (by rfl) ?_
 refine qL (k:=1) rfl rfl rfl rfl υ'36 rfl ζ'3 rfl ?_
 refine qP (j:=1) rfl rfl rfl rfl α'3 Tk Az (by rfl) ?_
 refine r_alt ?_ ?_
 ·
  have sp_1:=Fe.stand_spec pa pc cb x ((t:Nat):Int)
  refine qM rfl rfl rfl rfl rfl rfl κ'45 (sp_1) Ts ?_
  rintro ⟨⟩ -
  try simp only [List.cons_append,List.nil_append]
  refine qV (qK rfl rfl rfl rfl (kW rfl rfl rfl rfl rfl (kH 78 rfl (v':=.agg #[.int .i64 2,.int .i64 o,.int .i64 rr]) (by rw [hst]) ?_)))
  refine kW rfl rfl rfl rfl rfl (cF rfl rfl rfl ω'107 (zs:=[.int .i64 0,.int .i64 0,.int .i64 0]) rfl ?_)
  intro b6
  refine qV (kR (j:=0) rfl rfl rfl rfl ζ'107 (us:=[_,_,_]) rfl rfl rfl Tk Az (by first | decide | (simp;done) | omega) ?_)
  simp only [setL,List.set]
  refine qV (qR rfl rfl rfl rfl (qS (qW [0,2,4,6] (e':=[(0,_),(2,_),(4,_),(6,_)]) rfl ?_)))
  refine qQ (qG (qC (.q 0 (.q 1 (.q 2 (.q 3 (.q 4 ((.l 5 [] ((.l 6 [] (.done)))))))))) Kr ?_))
  refine qL (k:=1) rfl rfl rfl rfl υ'107 rfl ζ'3 rfl ?_
  refine qP (j:=1) rfl rfl rfl rfl α'3 Tk Az (by rfl) ?_
  refine qL (k:=2) rfl rfl rfl rfl υ'107 rfl ζ'3 rfl ?_
  refine qP (j:=2) rfl rfl rfl rfl α'3 Tk Az (by rfl) ?_
  refine cX rfl rfl rfl rfl (vs:=[_,_]) (kM υ'125 ω'125 (ps:=[(0,1),(1,1)]) ⟨rfl,ζ'3,rfl,ζ'3,trivial⟩ rfl) ?_
  refine cF rfl rfl rfl ω'125 (zs:=[.int .i64 0,.int .i64 0]) rfl ?_
  intro b8
  refine qV (kR (j:=0) rfl rfl rfl rfl ζ'125 (us:=[_,_]) rfl rfl rfl Tk Az (by first | decide | (simp;done) | omega) ?_)
  simp only [setL,List.set]
  refine qV (qS (qW [0,2,4,8] (e':=[(0,_),(2,_),(4,_),(8,_)]) rfl ?_))
  refine qQ (qG (qG (s_rest_miss (F:=F4) (T:=rd) (S:=[]) (o,rr) Tk (by simp) hq fun hrF=>?_)))
  refine kX rfl (.q 0 (.q 1 (.q 2 (.q 3 (.q 4 (.q 5 (.q 6 (.done)))))))) Kr ?_
  refine qK rfl rfl rfl rfl (qX rfl rfl rfl rfl (qL (k:=5) rfl rfl rfl rfl υ'81 rfl ζ'78 rfl ?_))
  refine qP (j:=5) rfl rfl rfl rfl α'78 Tk Az (by rfl) ?_
  refine kN rfl rfl rfl rfl α'125 ζ'125 Tk 0 (us:=[_,_]) Az rfl rfl ?_
  refine sL (ek:=ek2) (ev1:=evA) (F:=F4) (m:=m4) (k:=(o,rr)) none rfl rfl rfl rfl rfl υ'78 (sJ υ'125 rfl rfl rfl rfl υ'3 υ'3 α'3 α'3 Kr) ω'132 Tk ?_
  refine kH 90 rfl (v':=.pointer none) (by rw [hrF];rfl) ?_
  refine cY rfl rfl rfl rfl υ'132 ?_
  refine kH 91 rfl (v':=.bool true) rfl ?_
  refine qS (qW [0,2,4,8,91] (e':=[(0,_),(2,_),(4,_),(8,_),(91,_)]) rfl ?_)
  refine qQ (cN rfl ?_)
  refine kX rfl (.q 0 (.q 1 (.q 2 (.q 3 (.q 4 (.q 5 (.q 6 (.q 7 (.q 8 (.q 9 (.q 10 (.q 11 (.q 12 (.q 13 ((.l 14 [3,4] ((.l 15 [] (.done))))))))))))))))))) Kr ?_
  refine qK rfl rfl rfl rfl (qX rfl rfl rfl rfl (qL (k:=5) rfl rfl rfl rfl υ'81 rfl ζ'78 rfl ?_))
  refine qP (j:=5) rfl rfl rfl rfl α'78 Tk Az (by rfl) ?_
  refine kN rfl rfl rfl rfl α'125 ζ'125 Tk 0 (us:=[_,_]) Az rfl rfl ?_
  refine qK rfl rfl rfl rfl (qX rfl rfl rfl rfl (qL (k:=1) rfl rfl rfl rfl υ'81 rfl ζ'23 rfl ?_))
  refine qP (j:=1) rfl rfl rfl rfl α'23 Tk Az (by rfl) ?_
  refine qL (k:=2) rfl rfl rfl rfl υ'36 rfl ζ'3 rfl ?_
  refine qP (j:=2) rfl rfl rfl rfl α'3 Tk Az (by rfl) ?_
  refine kY (sz:=0) (k:=o.toNat) (enc:=encZ) (xs:=pl) rfl rfl rfl rfl rfl υ'23 ζ'3 hpp (by first | rfl | omega) Om Tk ?_
  intro ib103 io103 ha103 hl103 hc103
  refine kQ (v:=(.int .i64 pp)) (j:=0) (k':=o.toNat) (enc:=encZ) (off:=io103) rfl rfl rfl rfl α'3 ha103 encZ_len hpp Tk (by first | rfl | exact (Nat.add_zero _).symm | omega) (by rfl) ?_
  refine cX rfl rfl rfl rfl (vs:=[_,_]) (kM υ'136 Try.zeroValue136 (ps:=[(0,1),(1,1)]) ⟨rfl,ζ'134,rfl,ζ'3,trivial⟩ rfl) ?_
  refine sX rfl rfl rfl rfl (us:=[_,_]) rfl ?_
  intro kb
  refine qH (q:=5) rfl rfl rfl α'78 Tk Az (by rfl) ?_
  refine cZ rfl rfl (us:=[_,_]) rfl α'125 ζ'125 Tk 0 Az rfl rfl ?_
  refine qV (sF (ek:=ek2) (ev1:=evA) (F:=F4) (m:=m4) (k:=(o,rr)) (v:=(some ⟨kb,0,none⟩:Option Addr)) (by first | exact .inl rfl | exact .inr rfl) rfl rfl rfl rfl υ'78 (sJ υ'125 rfl rfl rfl rfl υ'3 υ'3 α'3 α'3 Kr) Tk ?_)
  refine qV (qS (kF (fun _ h=>cJ (sz:=1) (enc:=encU) h) ?_))
  refine qW [0,2,4,8] (e':=[(0,_),(2,_),(4,_),(8,_)]) rfl ?_
  refine qQ (kX rfl (.q 0 (.q 1 (.q 2 (.q 3 (.q 4 (.q 5 (.q 6 (.q 7 (.q 8 ((.l 9 [3,4,5] ((.l 10 [] (.done)))))))))))))) Kr ?_)
  refine qK rfl rfl rfl rfl (qX rfl rfl rfl rfl (qL (k:=5) rfl rfl rfl rfl υ'81 rfl ζ'78 rfl ?_))
  refine qP (j:=5) rfl rfl rfl rfl α'78 Tk Az (by rfl) ?_
  refine kN rfl rfl rfl rfl α'125 ζ'125 Tk 0 (us:=[_,_]) Az rfl rfl ?_
  refine sL (ek:=ek2) (ev1:=evA) (F:=(upd F4 (o,rr) (some (some ⟨kb,0,none⟩:Option Addr)))) (m:=m4) (k:=(o,rr)) none rfl rfl rfl rfl rfl υ'78 (sJ υ'125 rfl rfl rfl rfl υ'3 υ'3 α'3 α'3 Kr) ω'132 Tk ?_
  refine kH 112 rfl (v':=.pointer (some ⟨kb,0,none⟩)) (by simp only [sQ];rfl) ?_
  refine qX rfl rfl rfl rfl (qL (k:=0) rfl rfl rfl rfl υ'136 rfl ζ'134 rfl ?_)
  refine kH 114 rfl (v':=.pointer (some ⟨kb,0,none⟩)) (by rfl) ?_
  refine qK rfl rfl rfl rfl (cG rfl rfl rfl rfl (cB (us:=[_]) υ'182 ζ'86 rfl ω'86 rfl rfl rfl) ?_)
  intro b116
  refine qH (q:=5) rfl rfl rfl α'78 Tk Az (by rfl) ?_
  refine cZ rfl rfl (us:=[_,_]) rfl α'125 ζ'125 Tk 0 Az rfl rfl ?_
  refine ag_lookup1 (ek:=ek2) (ev1:=evA) (F:=(upd F4 (o,rr) (some (some ⟨kb,0,none⟩:Option Addr)))) (m:=m4) (k:=(o,rr)) none rfl rfl (by first | rfl | (simp only [sQ];rfl)) rfl rfl υ'78 (sJ υ'125 rfl rfl rfl rfl υ'3 υ'3 α'3 α'3 Kr) ω'132 Tk ?_
  refine qV (cK (A:=cells kb 0 [.slice none 0 0,.int .i64 pp]) Tk ?_)
  refine kF (fun _ h=>cells_part h) ?_
  refine sH (f:=kf) ?_
  refine kF (fun _ h=>Bun.fold ((by (repeat ((with_reducible apply Z2);focus (first | (with_reducible (repeat (first | exact Z0 | apply Z1));done) | (repeat (first | exact Z0 | apply Z1)))));exact Z3:Takes _ [cells b 0 [.slice ao l.length cap],own 1 encU ao cap l] _) _ h)) ?_
  refine rS (f:=kf) (L:=[]) (x:=(b,ao,cap,l)) Ts ?_
  simp only [List.nil_append]
  have sp_2:=Vc.join_spec kb ([]:List Int) none 0 0 Ln nil_cv [(b,ao,cap,l)] [(b,ao,cap,l)] (fun x hx=>hx) (by intro x hx;simp at hx;subst hx;exact hl) (some ⟨b116,0,none⟩) 1 1 (cells b116 0 [.pointer (some ⟨b,0,none⟩)]) (sW sC) rfl (by decide)
  refine qM rfl rfl rfl rfl rfl rfl κ'89 (sp_2) Ts ?_
  rintro ⟨ja,jc⟩ -
  try simp only [List.cons_append,List.nil_append]
  refine s_big_take (f:=kf) (L:=[(b,ao,cap,l)]) (i:=0) (x:=(b,ao,cap,l)) Tk rfl ?_
  refine s_bun ?_
  try simp only [List.cons_append,List.nil_append,List.eraseIdx_cons_zero]
  rw [show jnA ([]:List Int) [(b,ao,cap,l)]=jn ([]:List Int) l from rfl]
  try simp only [List.cons_append,List.nil_append]
  refine qV (s_whole (b:=kb) (v:=.slice ja (jn ([]:List Int) l).length jc) (vs:=[.int .i64 pp]) Ts ?_)
  refine qS (qW [2,4] (e':=[(2,_),(4,_)]) rfl ?_)
  refine kK (qQ (qC (.q 0 (.q 1 (.q 2 ((.l 3 [] (.done)))))) Kr ?_))
  refine qK rfl rfl rfl rfl (qL (k:=1) rfl rfl rfl rfl υ'36 rfl ζ'3 rfl ?_)
  refine qP (j:=1) rfl rfl rfl rfl α'3 Tk Az (by rfl) ?_
  have sp_3:=Vc.inc_spec b l ao l.length cap Ln hl t Om (by exact hlt)
  refine qM rfl rfl rfl rfl rfl rfl κ'90 (sp_3) Ts ?_
  rintro ⟨ia,ic⟩ -
  try simp only [List.cons_append,List.nil_append]
  refine qV (qS (qW [] (e':=[]) rfl ?_))
  refine sR ?_
  rw [show mgF ((rd (o,rr)).map (·.1)) l=jn [] l from by rw [hq];exact (jn_nil hl).symm]
  refine s_keptF kb ja jc (jn ([]:List Int) l) pp Ts ?_
  refine sG (F:=F4) (T:=rd) (S:=[]) (o,rr) (upd F4 (o,rr) (some (some ⟨kb,0,none⟩:Option Addr))) (upd rd (o,rr) (some (jn ([]:List Int) l,pp))) Ts (by simp) sQ (fun q h _=>sB h) sQ (fun q h _=>sB h) ?_
  refine rR rfl ((ia,ic,(upd F4 (o,rr) (some (some ⟨kb,0,none⟩:Option Addr))))) (by first | rfl | (first | rfl | (congr 1;done) | (congr 1 <;> first | rfl | omega | (simp;done) | (simp;omega)))) (by trivial) ?_
  exact Tf
 refine cF rfl rfl rfl ω'107 (zs:=[.int .i64 0,.int .i64 0,.int .i64 0]) rfl ?_
 intro b6
 refine qH (q:=0) rfl rfl rfl α'76 Tk Az (by rfl) ?_
 refine qH (q:=1) rfl rfl rfl α'3 Tk Az (by rfl) ?_
 refine qV ?_
 have sp_4:=Fe.stand_spec pa pc cb x ((t:Nat):Int)
 refine qM rfl rfl rfl rfl rfl rfl κ'45 (sp_4) Ts ?_
 rintro ⟨⟩ -
 try simp only [List.cons_append,List.nil_append]
 refine qV (qK rfl rfl rfl rfl (kW rfl rfl rfl rfl rfl (kH 78 rfl (v':=.agg #[.int .i64 2,.int .i64 o,.int .i64 rr]) (by rw [hst]) ?_)))
 refine kW rfl rfl rfl rfl rfl (kR (j:=0) rfl rfl rfl rfl ζ'107 (us:=[_,_,_]) rfl rfl rfl Tk Az (by first | decide | (simp;done) | omega) ?_)
 simp only [setL,List.set]
 refine qV (qR rfl rfl rfl rfl (qS (qW [0,2,4,6] (e':=[(0,_),(2,_),(4,_),(6,_)]) rfl ?_)))
 refine qQ (qG (qC (.q 0 (.q 1 (.q 2 (.q 3 (.q 4 ((.l 5 [] ((.l 6 [] (.done)))))))))) Kr ?_))
 refine qL (k:=1) rfl rfl rfl rfl υ'107 rfl ζ'3 rfl ?_
 refine qP (j:=1) rfl rfl rfl rfl α'3 Tk Az (by rfl) ?_
 refine qL (k:=2) rfl rfl rfl rfl υ'107 rfl ζ'3 rfl ?_
 refine qP (j:=2) rfl rfl rfl rfl α'3 Tk Az (by rfl) ?_
 refine cX rfl rfl rfl rfl (vs:=[_,_]) (kM υ'125 ω'125 (ps:=[(0,1),(1,1)]) ⟨rfl,ζ'3,rfl,ζ'3,trivial⟩ rfl) ?_
 refine cF rfl rfl rfl ω'125 (zs:=[.int .i64 0,.int .i64 0]) rfl ?_
 intro b8
 refine qV (kR (j:=0) rfl rfl rfl rfl ζ'125 (us:=[_,_]) rfl rfl rfl Tk Az (by first | decide | (simp;done) | omega) ?_)
 simp only [setL,List.set]
 refine qV (qS (qW [0,2,4,8] (e':=[(0,_),(2,_),(4,_),(8,_)]) rfl ?_))
 refine qQ (qG (qG (s_rest_miss (F:=F4) (T:=rd) (S:=[]) (o,rr) Tk (by simp) hq fun hrF=>?_)))
 refine kX rfl (.q 0 (.q 1 (.q 2 (.q 3 (.q 4 (.q 5 (.q 6 (.done)))))))) Kr ?_
 refine qK rfl rfl rfl rfl (qX rfl rfl rfl rfl (qL (k:=5) rfl rfl rfl rfl υ'81 rfl ζ'78 rfl ?_))
 refine qP (j:=5) rfl rfl rfl rfl α'78 Tk Az (by rfl) ?_
 refine kN rfl rfl rfl rfl α'125 ζ'125 Tk 0 (us:=[_,_]) Az rfl rfl ?_
 refine sL (ek:=ek2) (ev1:=evA) (F:=F4) (m:=m4) (k:=(o,rr)) none rfl rfl rfl rfl rfl υ'78 (sJ υ'125 rfl rfl rfl rfl υ'3 υ'3 α'3 α'3 Kr) ω'132 Tk ?_
 refine kH 90 rfl (v':=.pointer none) (by rw [hrF];rfl) ?_
 refine cY rfl rfl rfl rfl υ'132 ?_
 refine kH 91 rfl (v':=.bool true) rfl ?_
 refine qS (qW [0,2,4,8,91] (e':=[(0,_),(2,_),(4,_),(8,_),(91,_)]) rfl ?_)
 refine qQ (cN rfl ?_)
 refine kX rfl (.q 0 (.q 1 (.q 2 (.q 3 (.q 4 (.q 5 (.q 6 (.q 7 (.q 8 (.q 9 (.q 10 (.q 11 (.q 12 (.q 13 ((.l 14 [3,4] ((.l 15 [] (.done))))))))))))))))))) Kr ?_
 refine qK rfl rfl rfl rfl (qX rfl rfl rfl rfl (qL (k:=5) rfl rfl rfl rfl υ'81 rfl ζ'78 rfl ?_))
 refine qP (j:=5) rfl rfl rfl rfl α'78 Tk Az (by rfl) ?_
 refine kN rfl rfl rfl rfl α'125 ζ'125 Tk 0 (us:=[_,_]) Az rfl rfl ?_
 refine qK rfl rfl rfl rfl (qX rfl rfl rfl rfl (qL (k:=1) rfl rfl rfl rfl υ'81 rfl ζ'23 rfl ?_))
 refine qP (j:=1) rfl rfl rfl rfl α'23 Tk Az (by rfl) ?_
 refine qL (k:=2) rfl rfl rfl rfl υ'36 rfl ζ'3 rfl ?_
 refine qP (j:=2) rfl rfl rfl rfl α'3 Tk Az (by rfl) ?_
 refine kY (sz:=0) (k:=o.toNat) (enc:=encZ) (xs:=pl) rfl rfl rfl rfl rfl υ'23 ζ'3 hpp (by first | rfl | omega) Om Tk ?_
 intro ib103 io103 ha103 hl103 hc103
 refine kQ (v:=(.int .i64 pp)) (j:=0) (k':=o.toNat) (enc:=encZ) (off:=io103) rfl rfl rfl rfl α'3 ha103 encZ_len hpp Tk (by first | rfl | exact (Nat.add_zero _).symm | omega) (by rfl) ?_
 refine cX rfl rfl rfl rfl (vs:=[_,_]) (kM υ'136 Try.zeroValue136 (ps:=[(0,1),(1,1)]) ⟨rfl,ζ'134,rfl,ζ'3,trivial⟩ rfl) ?_
 refine sX rfl rfl rfl rfl (us:=[_,_]) rfl ?_
 intro kb
 refine qH (q:=5) rfl rfl rfl α'78 Tk Az (by rfl) ?_
 refine cZ rfl rfl (us:=[_,_]) rfl α'125 ζ'125 Tk 0 Az rfl rfl ?_
 refine qV (sF (ek:=ek2) (ev1:=evA) (F:=F4) (m:=m4) (k:=(o,rr)) (v:=(some ⟨kb,0,none⟩:Option Addr)) (by first | exact .inl rfl | exact .inr rfl) rfl rfl rfl rfl υ'78 (sJ υ'125 rfl rfl rfl rfl υ'3 υ'3 α'3 α'3 Kr) Tk ?_)
 refine qV (qS (kF (fun _ h=>cJ (sz:=1) (enc:=encU) h) ?_))
 refine qW [0,2,4,8] (e':=[(0,_),(2,_),(4,_),(8,_)]) rfl ?_
 refine qQ (kX rfl (.q 0 (.q 1 (.q 2 (.q 3 (.q 4 (.q 5 (.q 6 (.q 7 (.q 8 ((.l 9 [3,4,5] ((.l 10 [] (.done)))))))))))))) Kr ?_)
 refine qK rfl rfl rfl rfl (qX rfl rfl rfl rfl (qL (k:=5) rfl rfl rfl rfl υ'81 rfl ζ'78 rfl ?_))
 refine qP (j:=5) rfl rfl rfl rfl α'78 Tk Az (by rfl) ?_
 refine kN rfl rfl rfl rfl α'125 ζ'125 Tk 0 (us:=[_,_]) Az rfl rfl ?_
 refine sL (ek:=ek2) (ev1:=evA) (F:=(upd F4 (o,rr) (some (some ⟨kb,0,none⟩:Option Addr)))) (m:=m4) (k:=(o,rr)) none rfl rfl rfl rfl rfl υ'78 (sJ υ'125 rfl rfl rfl rfl υ'3 υ'3 α'3 α'3 Kr) ω'132 Tk ?_
 refine kH 112 rfl (v':=.pointer (some ⟨kb,0,none⟩)) (by simp only [sQ];rfl) ?_
 refine qX rfl rfl rfl rfl (qL (k:=0) rfl rfl rfl rfl υ'136 rfl ζ'134 rfl ?_)
 refine kH 114 rfl (v':=.pointer (some ⟨kb,0,none⟩)) (by rfl) ?_
 refine qK rfl rfl rfl rfl (cG rfl rfl rfl rfl (cB (us:=[_]) υ'182 ζ'86 rfl ω'86 rfl rfl rfl) ?_)
 intro b116
 refine qH (q:=5) rfl rfl rfl α'78 Tk Az (by rfl) ?_
 refine cZ rfl rfl (us:=[_,_]) rfl α'125 ζ'125 Tk 0 Az rfl rfl ?_
 refine ag_lookup1 (ek:=ek2) (ev1:=evA) (F:=(upd F4 (o,rr) (some (some ⟨kb,0,none⟩:Option Addr)))) (m:=m4) (k:=(o,rr)) none rfl rfl (by first | rfl | (simp only [sQ];rfl)) rfl rfl υ'78 (sJ υ'125 rfl rfl rfl rfl υ'3 υ'3 α'3 α'3 Kr) ω'132 Tk ?_
 refine qV (cK (A:=cells kb 0 [.slice none 0 0,.int .i64 pp]) Tk ?_)
 refine kF (fun _ h=>cells_part h) ?_
 refine sH (f:=kf) ?_
 refine kF (fun _ h=>Bun.fold ((by (repeat ((with_reducible apply Z2);focus (first | (with_reducible (repeat (first | exact Z0 | apply Z1));done) | (repeat (first | exact Z0 | apply Z1)))));exact Z3:Takes _ [cells b 0 [.slice ao l.length cap],own 1 encU ao cap l] _) _ h)) ?_
 refine rS (f:=kf) (L:=[]) (x:=(b,ao,cap,l)) Ts ?_
 simp only [List.nil_append]
 have sp_5:=Vc.join_spec kb ([]:List Int) none 0 0 Ln nil_cv [(b,ao,cap,l)] [(b,ao,cap,l)] (fun x hx=>hx) (by intro x hx;simp at hx;subst hx;exact hl) (some ⟨b116,0,none⟩) 1 1 (cells b116 0 [.pointer (some ⟨b,0,none⟩)]) (sW sC) rfl (by decide)
 refine qM rfl rfl rfl rfl rfl rfl κ'89 (sp_5) Ts ?_
 rintro ⟨ja,jc⟩ -
 try simp only [List.cons_append,List.nil_append]
 refine s_big_take (f:=kf) (L:=[(b,ao,cap,l)]) (i:=0) (x:=(b,ao,cap,l)) Tk rfl ?_
 refine s_bun ?_
 try simp only [List.cons_append,List.nil_append,List.eraseIdx_cons_zero]
 rw [show jnA ([]:List Int) [(b,ao,cap,l)]=jn ([]:List Int) l from rfl]
 try simp only [List.cons_append,List.nil_append]
 refine qV (s_whole (b:=kb) (v:=.slice ja (jn ([]:List Int) l).length jc) (vs:=[.int .i64 pp]) Ts ?_)
 refine qS (qW [2,4] (e':=[(2,_),(4,_)]) rfl ?_)
 refine kK (qQ (qC (.q 0 (.q 1 (.q 2 ((.l 3 [] (.done)))))) Kr ?_))
 refine qK rfl rfl rfl rfl (qL (k:=1) rfl rfl rfl rfl υ'36 rfl ζ'3 rfl ?_)
 refine qP (j:=1) rfl rfl rfl rfl α'3 Tk Az (by rfl) ?_
 have sp_6:=Vc.inc_spec b l ao l.length cap Ln hl t Om (by exact hlt)
 refine qM rfl rfl rfl rfl rfl rfl κ'90 (sp_6) Ts ?_
 rintro ⟨ia,ic⟩ -
 try simp only [List.cons_append,List.nil_append]
 refine qV (qS (qW [] (e':=[]) rfl ?_))
 refine sR ?_
 rw [show mgF ((rd (o,rr)).map (·.1)) l=jn [] l from by rw [hq];exact (jn_nil hl).symm]
 refine s_keptF kb ja jc (jn ([]:List Int) l) pp Ts ?_
 refine sG (F:=F4) (T:=rd) (S:=[]) (o,rr) (upd F4 (o,rr) (some (some ⟨kb,0,none⟩:Option Addr))) (upd rd (o,rr) (some (jn ([]:List Int) l,pp))) Ts (by simp) sQ (fun q h _=>sB h) sQ (fun q h _=>sB h) ?_
 refine rR rfl ((ia,ic,(upd F4 (o,rr) (some (some ⟨kb,0,none⟩:Option Addr))))) (by first | rfl | (first | rfl | (congr 1;done) | (congr 1 <;> first | rfl | omega | (simp;done) | (simp;omega)))) (by trivial) ?_
 exact Tf
theorem rel_arr1 (db:Nat) (v2 v3 v4 v6 v7:Value) (b:Nat) (l:List Int) (ao:Option Addr) (cap:Nat) (hl:CV l) (k:Int) (t:Nat) (o:Int) (ht:t < 65535) (hlt:l.getD t 0 < maxC) (cb pn:Nat) (pa:Option Addr) (pc:Nat) (x:CS) (hx:CInv x) (pl:List Int) (hpn:pn=pl.length) (po:Option Addr) (poc:Nat) (pp:Int) (hpp:pl[o.toNat]?=some pp) (ho:0≤o) (hpb:pl.length≤4096) (rr:Int) (hst:stF x ((t:Nat):Int)=(2,o,rr)) (m4:Nat) (F4:Int × Int→Option (Option Addr)) (rd:Int × Int→Option (List Int × Int)) (hk:k=9) (q:List Int × Int) (hq:rd (o,rr)=some q) (hqc:CV q.1):Spec Try.prog 55 [.pointer (some ⟨db,0,none⟩),.agg #[.int .i64 k,.int .i64 ((t:Nat):Int),.int .i64 o],.pointer (some ⟨b,0,none⟩)] [cells db 0 [.pointer (some ⟨cb,0,none⟩),.slice po pn poc,v2,v3,v4,.map (some m4),v6,v7],ck pa pc cb x,own 1 encZ po poc pl,mapO ek2 evA m4 F4,rest keptA F4 rd [] , cells b 0 [.slice ao l.length cap],own 1 encU ao cap l] (fun (r:Option Addr × Nat × (Int × Int→Option (Option Addr)))=>.tuple #[]) (fun r=>True) (fun r=>[cells db 0 [.pointer (some ⟨cb,0,none⟩),.slice po pn poc,v2,v3,v4,.map (some m4),v6,v7],ck pa pc cb x,own 1 encZ po poc pl,mapO ek2 evA m4 r.2.2,rest keptA r.2.2 (upd rd (o,rr) (some (mgF ((rd (o,rr)).map (·.1)) l,q.2))) [],cells b 0 [.slice r.1 (icL l t).length r.2.1],own 1 encU r.1 r.2.1 (icL l t)]):=by
 refine kP (n:=122) Try.func55 rfl rfl rfl ?_
 intro Γ w0
 simp only [argE,List.cons_append,List.nil_append,Nat.zero_add,Nat.reduceAdd]
 have hll:=hl.len
 have hol:=(List.getElem?_eq_some_iff.1 hpp).1
 refine qG (qC ((.l 0 [] (.done))) Kr ?_)
 refine sX rfl rfl rfl rfl (us:=[_,_,_]) rfl ?_
 intro b4
 refine qV (qS (qQ (qG (qG (qC (.q 0 (.q 1 (.done))) Kr ?_)))))
 refine qL (k:=0) rfl rfl rfl rfl υ'36 rfl ζ'34 rfl ?_
 refine qP (j:=0) rfl rfl rfl rfl α'34 Tk Az (by rfl) ?_
 refine qS (qQ (kS (qG (qC (.q 0 (.q 1 (.done))) Kr ?_))))
 refine qN rfl rfl rfl rfl rfl (cS _ _ _ _) ?_
 refine qR rfl rfl rfl rfl (qS (qQ ?_))
 refine qB rfl (fun hg=>by exfalso;omega) (fun hg=>?_)
 refine qG (qC (.q 0 (.q 1 (.done))) Kr ?_)
 refine qN rfl rfl rfl rfl rfl (cS _ _ _ _) ?_
 refine qR rfl rfl rfl rfl (qS (qW [0,2,4,10,31] (e':=[(0,_),(2,_),(4,_),(10,_),(31,_)]) rfl ?_))
 refine qQ ?_
 refine qB rfl (fun hg=>by exfalso;omega) (fun hg=>?_)
 refine qG (qC (.q 0 (.q 1 (.done))) Kr ?_)
 refine qN rfl rfl rfl rfl rfl (cS _ _ _ _) ?_
 refine qR rfl rfl rfl rfl (qS (qQ ?_))
 refine qB rfl (fun hg=>by exfalso;omega) (fun hg=>?_)
 refine qG (qC (.q 0 (.q 1 (.done))) Kr ?_)
 refine qN rfl rfl rfl rfl rfl (cS _ _ _ _) ?_
 refine qR rfl rfl rfl rfl (qS (qW [0,2,4,68] (e':=[(0,_),(2,_),(4,_),(68,_)]) rfl ?_))
 refine qQ ?_
 refine qB rfl (fun hg=>?_) (fun hg=>by exfalso;omega)
 refine qG (kX rfl (.q 0 (.q 1 (.q 2 (.q 3 (.q 4 (.q 5 ((.alt (.l 6 [] (.q 7 (.q 8 (.q 9 ((.l 10 [] ((.l 11 [] (.q 12 (.done)))))))))) (.l 10 [3,5] ((.l 6 [] (.q 7 (.q 8 (.q 9 ((.l 11 [] (.q 12 (.done)))))))))))))))))) Kr ?_)
 refine qK rfl rfl rfl rfl (qX rfl rfl rfl rfl (qL (k:=0) rfl rfl rfl rfl υ'81 rfl ζ'76 rfl ?_))
 refine qP (j:=0) rfl rfl rfl rfl α'76 Tk Az (by rfl) ?_
 refine qL (k:=1) rfl rfl rfl rfl υ'36 rfl ζ'3 rfl ?_
 refine qP (j:=1) rfl rfl rfl rfl α'3 Tk Az (by rfl) ?_
 refine r_alt ?_ ?_
 ·
  have sp_1:=Fe.stand_spec pa pc cb x ((t:Nat):Int)
  refine qM rfl rfl rfl rfl rfl rfl κ'45 (sp_1) Ts ?_
  rintro ⟨⟩ -
  try simp only [List.cons_append,List.nil_append]
  refine qV (qK rfl rfl rfl rfl (kW rfl rfl rfl rfl rfl (kH 78 rfl (v':=.agg #[.int .i64 2,.int .i64 o,.int .i64 rr]) (by rw [hst]) ?_)))
  refine kW rfl rfl rfl rfl rfl (cF rfl rfl rfl ω'107 (zs:=[.int .i64 0,.int .i64 0,.int .i64 0]) rfl ?_)
  intro b6
  refine qV (kR (j:=0) rfl rfl rfl rfl ζ'107 (us:=[_,_,_]) rfl rfl rfl Tk Az (by first | decide | (simp;done) | omega) ?_)
  simp only [setL,List.set]
  refine qV (qR rfl rfl rfl rfl (qS (qW [0,2,4,6] (e':=[(0,_),(2,_),(4,_),(6,_)]) rfl ?_)))
  refine qQ (qG (qC (.q 0 (.q 1 (.q 2 (.q 3 (.q 4 ((.l 5 [] ((.l 6 [] (.done)))))))))) Kr ?_))
  refine qL (k:=1) rfl rfl rfl rfl υ'107 rfl ζ'3 rfl ?_
  refine qP (j:=1) rfl rfl rfl rfl α'3 Tk Az (by rfl) ?_
  refine qL (k:=2) rfl rfl rfl rfl υ'107 rfl ζ'3 rfl ?_
  refine qP (j:=2) rfl rfl rfl rfl α'3 Tk Az (by rfl) ?_
  refine cX rfl rfl rfl rfl (vs:=[_,_]) (kM υ'125 ω'125 (ps:=[(0,1),(1,1)]) ⟨rfl,ζ'3,rfl,ζ'3,trivial⟩ rfl) ?_
  refine cF rfl rfl rfl ω'125 (zs:=[.int .i64 0,.int .i64 0]) rfl ?_
  intro b8
  refine qV (kR (j:=0) rfl rfl rfl rfl ζ'125 (us:=[_,_]) rfl rfl rfl Tk Az (by first | decide | (simp;done) | omega) ?_)
  simp only [setL,List.set]
  refine qV (qS (qW [0,2,4,8] (e':=[(0,_),(2,_),(4,_),(8,_)]) rfl ?_))
  refine qQ (qG (qG (s_rest_take (F:=F4) (T:=rd) (S:=[]) (o,rr) Tk (by simp) hq fun rv hrF=>?_)))
  refine s_kept Tk fun kb ka kc hka=>?_
  subst hka
  refine kX rfl (.q 0 (.q 1 (.q 2 (.q 3 (.q 4 (.q 5 (.q 6 (.done)))))))) Kr ?_
  refine qK rfl rfl rfl rfl (qX rfl rfl rfl rfl (qL (k:=5) rfl rfl rfl rfl υ'81 rfl ζ'78 rfl ?_))
  refine qP (j:=5) rfl rfl rfl rfl α'78 Tk Az (by rfl) ?_
  refine kN rfl rfl rfl rfl α'125 ζ'125 Tk 0 (us:=[_,_]) Az rfl rfl ?_
  refine sL (ek:=ek2) (ev1:=evA) (F:=F4) (m:=m4) (k:=(o,rr)) none rfl rfl rfl rfl rfl υ'78 (sJ υ'125 rfl rfl rfl rfl υ'3 υ'3 α'3 α'3 Kr) ω'132 Tk ?_
  refine kH 90 rfl (v':=.pointer (some ⟨kb,0,none⟩)) (by rw [hrF];rfl) ?_
  refine cY rfl rfl rfl rfl υ'132 ?_
  refine kH 91 rfl (v':=.bool false) rfl ?_
  refine qS (qW [0,2,4,8,91] (e':=[(0,_),(2,_),(4,_),(8,_),(91,_)]) rfl ?_)
  refine qQ (kB rfl ?_)
  refine qF (qQ (kX rfl (.q 0 (.q 1 (.q 2 (.q 3 (.q 4 (.q 5 (.q 6 (.q 7 (.q 8 ((.l 9 [3,4,5] ((.l 10 [] (.done)))))))))))))) Kr ?_))
  refine qK rfl rfl rfl rfl (qX rfl rfl rfl rfl (qL (k:=5) rfl rfl rfl rfl υ'81 rfl ζ'78 rfl ?_))
  refine qP (j:=5) rfl rfl rfl rfl α'78 Tk Az (by rfl) ?_
  refine kN rfl rfl rfl rfl α'125 ζ'125 Tk 0 (us:=[_,_]) Az rfl rfl ?_
  refine sL (ek:=ek2) (ev1:=evA) (F:=F4) (m:=m4) (k:=(o,rr)) none rfl rfl rfl rfl rfl υ'78 (sJ υ'125 rfl rfl rfl rfl υ'3 υ'3 α'3 α'3 Kr) ω'132 Tk ?_
  refine kH 112 rfl (v':=.pointer (some ⟨kb,0,none⟩)) (by rw [hrF];rfl) ?_
  refine qX rfl rfl rfl rfl (qL (k:=0) rfl rfl rfl rfl υ'136 rfl ζ'134 rfl ?_)
  refine kH 114 rfl (v':=.pointer (some ⟨kb,0,none⟩)) (by rfl) ?_
  refine qK rfl rfl rfl rfl (cG rfl rfl rfl rfl (cB (us:=[_]) υ'182 ζ'86 rfl ω'86 rfl rfl rfl) ?_)
  intro b116
  refine qH (q:=5) rfl rfl rfl α'78 Tk Az (by rfl) ?_
  refine cZ rfl rfl (us:=[_,_]) rfl α'125 ζ'125 Tk 0 Az rfl rfl ?_
  refine ag_lookup1 (ek:=ek2) (ev1:=evA) (F:=F4) (m:=m4) (k:=(o,rr)) none rfl rfl (by first | rfl | (rw [hrF];rfl)) rfl rfl υ'78 (sJ υ'125 rfl rfl rfl rfl υ'3 υ'3 α'3 α'3 Kr) ω'132 Tk ?_
  refine qV (cK (A:=cells kb 0 [.slice ka q.1.length kc,.int .i64 q.2]) Tk ?_)
  refine kF (fun _ h=>cells_part h) ?_
  refine sH (f:=kf) ?_
  refine kF (fun _ h=>Bun.fold ((by (repeat ((with_reducible apply Z2);focus (first | (with_reducible (repeat (first | exact Z0 | apply Z1));done) | (repeat (first | exact Z0 | apply Z1)))));exact Z3:Takes _ [cells b 0 [.slice ao l.length cap],own 1 encU ao cap l] _) _ h)) ?_
  refine rS (f:=kf) (L:=[]) (x:=(b,ao,cap,l)) Ts ?_
  simp only [List.nil_append]
  have sp_2:=Vc.join_spec kb q.1 ka q.1.length kc Ln hqc [(b,ao,cap,l)] [(b,ao,cap,l)] (fun x hx=>hx) (by intro x hx;simp at hx;subst hx;exact hl) (some ⟨b116,0,none⟩) 1 1 (cells b116 0 [.pointer (some ⟨b,0,none⟩)]) (sW sC) rfl (by decide)
  refine qM rfl rfl rfl rfl rfl rfl κ'89 (sp_2) Ts ?_
  rintro ⟨ja,jc⟩ -
  try simp only [List.cons_append,List.nil_append]
  refine s_big_take (f:=kf) (L:=[(b,ao,cap,l)]) (i:=0) (x:=(b,ao,cap,l)) Tk rfl ?_
  refine s_bun ?_
  try simp only [List.cons_append,List.nil_append,List.eraseIdx_cons_zero]
  rw [show jnA q.1 [(b,ao,cap,l)]=jn q.1 l from rfl]
  try simp only [List.cons_append,List.nil_append]
  refine qV (s_whole (b:=kb) (v:=.slice ja (jn q.1 l).length jc) (vs:=[.int .i64 q.2]) Ts ?_)
  refine qS (qW [2,4] (e':=[(2,_),(4,_)]) rfl ?_)
  refine kK (qQ (qC (.q 0 (.q 1 (.q 2 ((.l 3 [] (.done)))))) Kr ?_))
  refine qK rfl rfl rfl rfl (qL (k:=1) rfl rfl rfl rfl υ'36 rfl ζ'3 rfl ?_)
  refine qP (j:=1) rfl rfl rfl rfl α'3 Tk Az (by rfl) ?_
  have sp_3:=Vc.inc_spec b l ao l.length cap Ln hl t Om (by exact hlt)
  refine qM rfl rfl rfl rfl rfl rfl κ'90 (sp_3) Ts ?_
  rintro ⟨ia,ic⟩ -
  try simp only [List.cons_append,List.nil_append]
  refine qV (qS (qW [] (e':=[]) rfl ?_))
  refine sR ?_
  rw [show mgF ((rd (o,rr)).map (·.1)) l=jn q.1 l from by rw [hq];exact jn_comm hl hqc]
  refine s_keptF kb ja jc (jn q.1 l) q.2 Ts ?_
  refine sG (F:=F4) (T:=rd) (S:=[]) (o,rr) F4 (upd rd (o,rr) (some (jn q.1 l,q.2))) Ts (by simp) hrF (fun _ _ _=>rfl) sQ (fun q h _=>sB h) ?_
  refine rR rfl ((ia,ic,F4)) (by first | rfl | (first | rfl | (congr 1;done) | (congr 1 <;> first | rfl | omega | (simp;done) | (simp;omega)))) (by trivial) ?_
  exact Tf
 refine cF rfl rfl rfl ω'107 (zs:=[.int .i64 0,.int .i64 0,.int .i64 0]) rfl ?_
 intro b6
 refine qH (q:=0) rfl rfl rfl α'76 Tk Az (by rfl) ?_
 refine qH (q:=1) rfl rfl rfl α'3 Tk Az (by rfl) ?_
 refine qV ?_
 have sp_4:=Fe.stand_spec pa pc cb x ((t:Nat):Int)
 refine qM rfl rfl rfl rfl rfl rfl κ'45 (sp_4) Ts ?_
 rintro ⟨⟩ -
 try simp only [List.cons_append,List.nil_append]
 refine qV (qK rfl rfl rfl rfl (kW rfl rfl rfl rfl rfl (kH 78 rfl (v':=.agg #[.int .i64 2,.int .i64 o,.int .i64 rr]) (by rw [hst]) ?_)))
 refine kW rfl rfl rfl rfl rfl (kR (j:=0) rfl rfl rfl rfl ζ'107 (us:=[_,_,_]) rfl rfl rfl Tk Az (by first | decide | (simp;done) | omega) ?_)
 simp only [setL,List.set]
 refine qV (qR rfl rfl rfl rfl (qS (qW [0,2,4,6] (e':=[(0,_),(2,_),(4,_),(6,_)]) rfl ?_)))
 refine qQ (qG (qC (.q 0 (.q 1 (.q 2 (.q 3 (.q 4 ((.l 5 [] ((.l 6 [] (.done)))))))))) Kr ?_))
 refine qL (k:=1) rfl rfl rfl rfl υ'107 rfl ζ'3 rfl ?_
 refine qP (j:=1) rfl rfl rfl rfl α'3 Tk Az (by rfl) ?_
 refine qL (k:=2) rfl rfl rfl rfl υ'107 rfl ζ'3 rfl ?_
 refine qP (j:=2) rfl rfl rfl rfl α'3 Tk Az (by rfl) ?_
 refine cX rfl rfl rfl rfl (vs:=[_,_]) (kM υ'125 ω'125 (ps:=[(0,1),(1,1)]) ⟨rfl,ζ'3,rfl,ζ'3,trivial⟩ rfl) ?_
 refine cF rfl rfl rfl ω'125 (zs:=[.int .i64 0,.int .i64 0]) rfl ?_
 intro b8
 refine qV (kR (j:=0) rfl rfl rfl rfl ζ'125 (us:=[_,_]) rfl rfl rfl Tk Az (by first | decide | (simp;done) | omega) ?_)
 simp only [setL,List.set]
 refine qV (qS (qW [0,2,4,8] (e':=[(0,_),(2,_),(4,_),(8,_)]) rfl ?_))
 refine qQ (qG (qG (s_rest_take (F:=F4) (T:=rd) (S:=[]) (o,rr) Tk (by simp) hq fun rv hrF=>?_)))
 refine s_kept Tk fun kb ka kc hka=>?_
 subst hka
 refine kX rfl (.q 0 (.q 1 (.q 2 (.q 3 (.q 4 (.q 5 (.q 6 (.done)))))))) Kr ?_
 refine qK rfl rfl rfl rfl (qX rfl rfl rfl rfl (qL (k:=5) rfl rfl rfl rfl υ'81 rfl ζ'78 rfl ?_))
 refine qP (j:=5) rfl rfl rfl rfl α'78 Tk Az (by rfl) ?_
 refine kN rfl rfl rfl rfl α'125 ζ'125 Tk 0 (us:=[_,_]) Az rfl rfl ?_
 refine sL (ek:=ek2) (ev1:=evA) (F:=F4) (m:=m4) (k:=(o,rr)) none rfl rfl rfl rfl rfl υ'78 (sJ υ'125 rfl rfl rfl rfl υ'3 υ'3 α'3 α'3 Kr) ω'132 Tk ?_
 refine kH 90 rfl (v':=.pointer (some ⟨kb,0,none⟩)) (by rw [hrF];rfl) ?_
 refine cY rfl rfl rfl rfl υ'132 ?_
 refine kH 91 rfl (v':=.bool false) rfl ?_
 refine qS (qW [0,2,4,8,91] (e':=[(0,_),(2,_),(4,_),(8,_),(91,_)]) rfl ?_)
 refine qQ (kB rfl ?_)
 refine qF (qQ (kX rfl (.q 0 (.q 1 (.q 2 (.q 3 (.q 4 (.q 5 (.q 6 (.q 7 (.q 8 ((.l 9 [3,4,5] ((.l 10 [] (.done)))))))))))))) Kr ?_))
 refine qK rfl rfl rfl rfl (qX rfl rfl rfl rfl (qL (k:=5) rfl rfl rfl rfl υ'81 rfl ζ'78 rfl ?_))
 refine qP (j:=5) rfl rfl rfl rfl α'78 Tk Az (by rfl) ?_
 refine kN rfl rfl rfl rfl α'125 ζ'125 Tk 0 (us:=[_,_]) Az rfl rfl ?_
 refine sL (ek:=ek2) (ev1:=evA) (F:=F4) (m:=m4) (k:=(o,rr)) none rfl rfl rfl rfl rfl υ'78 (sJ υ'125 rfl rfl rfl rfl υ'3 υ'3 α'3 α'3 Kr) ω'132 Tk ?_
 refine kH 112 rfl (v':=.pointer (some ⟨kb,0,none⟩)) (by rw [hrF];rfl) ?_
 refine qX rfl rfl rfl rfl (qL (k:=0) rfl rfl rfl rfl υ'136 rfl ζ'134 rfl ?_)
 refine kH 114 rfl (v':=.pointer (some ⟨kb,0,none⟩)) (by rfl) ?_
 refine qK rfl rfl rfl rfl (cG rfl rfl rfl rfl (cB (us:=[_]) υ'182 ζ'86 rfl ω'86 rfl rfl rfl) ?_)
 intro b116
 refine qH (q:=5) rfl rfl rfl α'78 Tk Az (by rfl) ?_
 refine cZ rfl rfl (us:=[_,_]) rfl α'125 ζ'125 Tk 0 Az rfl rfl ?_
 refine ag_lookup1 (ek:=ek2) (ev1:=evA) (F:=F4) (m:=m4) (k:=(o,rr)) none rfl rfl (by first | rfl | (rw [hrF];rfl)) rfl rfl υ'78 (sJ υ'125 rfl rfl rfl rfl υ'3 υ'3 α'3 α'3 Kr) ω'132 Tk ?_
 refine qV (cK (A:=cells kb 0 [.slice ka q.1.length kc,.int .i64 q.2]) Tk ?_)
 refine kF (fun _ h=>cells_part h) ?_
 refine sH (f:=kf) ?_
 refine kF (fun _ h=>Bun.fold ((by (repeat ((with_reducible apply Z2);focus (first | (with_reducible (repeat (first | exact Z0 | apply Z1));done) | (repeat (first | exact Z0 | apply Z1)))));exact Z3:Takes _ [cells b 0 [.slice ao l.length cap],own 1 encU ao cap l] _) _ h)) ?_
 refine rS (f:=kf) (L:=[]) (x:=(b,ao,cap,l)) Ts ?_
 simp only [List.nil_append]
 have sp_5:=Vc.join_spec kb q.1 ka q.1.length kc Ln hqc [(b,ao,cap,l)] [(b,ao,cap,l)] (fun x hx=>hx) (by intro x hx;simp at hx;subst hx;exact hl) (some ⟨b116,0,none⟩) 1 1 (cells b116 0 [.pointer (some ⟨b,0,none⟩)]) (sW sC) rfl (by decide)
 refine qM rfl rfl rfl rfl rfl rfl κ'89 (sp_5) Ts ?_
 rintro ⟨ja,jc⟩ -
 try simp only [List.cons_append,List.nil_append]
 refine s_big_take (f:=kf) (L:=[(b,ao,cap,l)]) (i:=0) (x:=(b,ao,cap,l)) Tk rfl ?_
 refine s_bun ?_
 try simp only [List.cons_append,List.nil_append,List.eraseIdx_cons_zero]
 rw [show jnA q.1 [(b,ao,cap,l)]=jn q.1 l from rfl]
 try simp only [List.cons_append,List.nil_append]
 refine qV (s_whole (b:=kb) (v:=.slice ja (jn q.1 l).length jc) (vs:=[.int .i64 q.2]) Ts ?_)
 refine qS (qW [2,4] (e':=[(2,_),(4,_)]) rfl ?_)
 refine kK (qQ (qC (.q 0 (.q 1 (.q 2 ((.l 3 [] (.done)))))) Kr ?_))
 refine qK rfl rfl rfl rfl (qL (k:=1) rfl rfl rfl rfl υ'36 rfl ζ'3 rfl ?_)
 refine qP (j:=1) rfl rfl rfl rfl α'3 Tk Az (by rfl) ?_
 have sp_6:=Vc.inc_spec b l ao l.length cap Ln hl t Om (by exact hlt)
 refine qM rfl rfl rfl rfl rfl rfl κ'90 (sp_6) Ts ?_
 rintro ⟨ia,ic⟩ -
 try simp only [List.cons_append,List.nil_append]
 refine qV (qS (qW [] (e':=[]) rfl ?_))
 refine sR ?_
 rw [show mgF ((rd (o,rr)).map (·.1)) l=jn q.1 l from by rw [hq];exact jn_comm hl hqc]
 refine s_keptF kb ja jc (jn q.1 l) q.2 Ts ?_
 refine sG (F:=F4) (T:=rd) (S:=[]) (o,rr) F4 (upd rd (o,rr) (some (jn q.1 l,q.2))) Ts (by simp) hrF (fun _ _ _=>rfl) sQ (fun q h _=>sB h) ?_
 refine rR rfl ((ia,ic,F4)) (by first | rfl | (first | rfl | (congr 1;done) | (congr 1 <;> first | rfl | omega | (simp;done) | (simp;omega)))) (by trivial) ?_
 exact Tf
theorem rel_none (db b:Nat) (k:Int) (t:Nat) (o:Int) (h7:k≠7) (h6:k≠6) (h4:k≠4) (h9:k≠9):Spec Try.prog 55 [.pointer (some ⟨db,0,none⟩),.agg #[.int .i64 k,.int .i64 ((t:Nat):Int),.int .i64 o],.pointer (some ⟨b,0,none⟩)] [] (fun (_:Unit)=>.tuple #[]) (fun _=>True) (fun _=>[]):=by
 refine kP (n:=122) Try.func55 rfl rfl rfl ?_
 intro Γ w0
 simp only [argE,List.cons_append,List.nil_append,Nat.zero_add,Nat.reduceAdd]
 refine qG (qC ((.l 0 [] (.done))) Kr ?_)
 refine sX rfl rfl rfl rfl (us:=[_,_,_]) rfl ?_
 intro b4
 refine qV (qS (qQ (qG (qG (qC (.q 0 (.q 1 (.done))) Kr ?_)))))
 refine qL (k:=0) rfl rfl rfl rfl υ'36 rfl ζ'34 rfl ?_
 refine qP (j:=0) rfl rfl rfl rfl α'34 Tk Az (by rfl) ?_
 refine qS (qQ (kS (qG (qC (.q 0 (.q 1 (.done))) Kr ?_))))
 refine qN rfl rfl rfl rfl rfl (cS _ _ _ _) ?_
 refine qR rfl rfl rfl rfl (qS (qQ ?_))
 refine qB rfl (fun hg=>by exfalso;omega) (fun hg=>?_)
 refine qG (qC (.q 0 (.q 1 (.done))) Kr ?_)
 refine qN rfl rfl rfl rfl rfl (cS _ _ _ _) ?_
 refine qR rfl rfl rfl rfl (qS (qW [0,2,4,10,31] (e':=[(0,_),(2,_),(4,_),(10,_),(31,_)]) rfl ?_))
 refine qQ ?_
 refine qB rfl (fun hg=>by exfalso;omega) (fun hg=>?_)
 refine qG (qC (.q 0 (.q 1 (.done))) Kr ?_)
 refine qN rfl rfl rfl rfl rfl (cS _ _ _ _) ?_
 refine qR rfl rfl rfl rfl (qS (qQ ?_))
 refine qB rfl (fun hg=>by exfalso;omega) (fun hg=>?_)
 refine qG (qC (.q 0 (.q 1 (.done))) Kr ?_)
 refine qN rfl rfl rfl rfl rfl (cS _ _ _ _) ?_
 refine qR rfl rfl rfl rfl (qS (qW [0,2,4,68] (e':=[(0,_),(2,_),(4,_),(68,_)]) rfl ?_))
 refine qQ ?_
 refine qB rfl (fun hg=>by exfalso;omega) (fun hg=>?_)
 refine qJ (cC (qD (rR rfl (()) (by first | rfl | (first | rfl | (congr 1;done) | (congr 1 <;> first | rfl | omega | (simp;done) | (simp;omega)))) (by trivial) ?_)))
 exact Tf
end Go.Ab.Fa
set_option linter.unusedVariables false
set_option linter.unusedSimpArgs false
set_option maxRecDepth 100000
namespace Go.Ab.Fa
open Go Go.Proofs Go.Ab Go.Ab.Fe Go.Ab.Vc Go.Ab.Dj
structure FS where
  v:VS
  vs:List V4F
  cost:Int
def f0V:V4F:=(0,0,none,-1)
structure FInv (x:FS):Prop where
  v:VInv x.v
  len:(x.vs.length:Int)=x.v.ck.va
  vs:∀ w∈x.vs,w.1 < 18446744073709551616∧w.2.1 < 18446744073709551616∧(∀ s,w.2.2.1=some s→CV s)∧-1≤w.2.2.2∧w.2.2.2 < x.v.ck.n
  c0:0≤x.cost∧x.cost≤x.v.ck.n
  own:∀ t l,x.v.th t=some l→1≤l.getD t.toNat 0
  rn:∀ o r,0≤o→(opF x.v.ck o).1 < r→x.v.rd (o,r)=none
  rp:∀ o r p,0≤o→x.v.rd (o,r)=some p→r=(opF x.v.ck o).1→p.2=x.v.ck.pa.getD o.toNat 0
def dfR (pa:Option Addr) (pc:Nat) (po:Option Addr) (poc b:Nat) (x:FS):HProp:=fun h=>∃ cb m1 m2 m3 m4 va vc F1 F2 F3 F4 V,V.length=x.vs.length∧Sat [cells b 0 [.pointer (some ⟨cb,0,none⟩),.slice po x.v.ck.pa.length poc,.map (some m1),.map (some m2),.map (some m3),.map (some m4),.slice va x.vs.length vc,.int .i64 x.cost],ck pa pc cb x.v.ck,
  mapO ekZ evA m1 F1,rest vecA F1 x.v.th [],mapO ekZ evA m2 F2,rest vecA F2 x.v.lk [],mapO ekZ evA m3 F3,rest vecA F3 x.v.vo [],mapO ek2 evA m4 F4,rest keptA F4 x.v.rd [],own 4 encF va vc V,restL fvarA V x.vs []] h
section
variable {w0:World} {ds:List Deferred} {n:Nat} {e:Env} {Γ Γ':List HProp} {X:Act→World→Prop}
theorem df_open {pa:Option Addr} {pc:Nat} {po:Option Addr} {poc b:Nat} {x:FS} (k:∀ cb m1 m2 m3 m4 va vc F1 F2 F3 F4 V,V.length=x.vs.length→Le (St w0 ds n e (cells b 0 [.pointer (some ⟨cb,0,none⟩),.slice po x.v.ck.pa.length poc,.map (some m1),.map (some m2),.map (some m3),.map (some m4),.slice va x.vs.length vc,.int .i64 x.cost]::ck pa pc cb x.v.ck ::
    mapO ekZ evA m1 F1::rest vecA F1 x.v.th []::mapO ekZ evA m2 F2::rest vecA F2 x.v.lk []::mapO ekZ evA m3 F3::rest vecA F3 x.v.vo []::mapO ek2 evA m4 F4::rest keptA F4 x.v.rd []::own 4 encF va vc V::restL fvarA V x.vs []::Γ)) X):Le (St w0 ds n e (dfR pa pc po poc b x::Γ)) X:=fun a w s=>by
  obtain ⟨h1,l1,⟨cb,m1,m2,m3,m4,va,vc,F1,F2,F3,F4,V,hV,a1⟩,s1⟩:=s.heap
  exact k cb m1 m2 m3 m4 va vc F1 F2 F3 F4 V hV a w ⟨s.defers,s.size,s.env,Bun.unfold ⟨h1,l1,a1,s1⟩,s.amb⟩
theorem df_fold {b:Nat} (x:FS) {pa:Option Addr} {pc:Nat} {po:Option Addr} {poc pn cb m1 m2 m3 m4 m vc:Nat} {va:Option Addr} {F1 F2 F3:Int→Option (Option Addr)} {F4:Int × Int→Option (Option Addr)} {c:CS} {T1 T2 T3:Int→Option (List Int)} {T4:Int × Int→Option (List Int × Int)} {V:List P4F} {Y:List V4F} {z:Int}
    (tk:Takes Γ [cells b 0 [.pointer (some ⟨cb,0,none⟩),.slice po pn poc,.map (some m1),.map (some m2),.map (some m3),.map (some m4),.slice va m vc,.int .i64 z],ck pa pc cb c,
      mapO ekZ evA m1 F1,rest vecA F1 T1 [],mapO ekZ evA m2 F2,rest vecA F2 T2 [],mapO ekZ evA m3 F3,rest vecA F3 T3 [],mapO ek2 evA m4 F4,rest keptA F4 T4 [],own 4 encF va vc V,restL fvarA V Y []] Γ') (hx:x=⟨⟨c,T1,T2,T3,T4⟩,Y,z⟩) (h1:pn=c.pa.length) (h2:m=Y.length) (h3:V.length=Y.length)
    (k:Le (St w0 ds n e (dfR pa pc po poc b x::Γ')) X):Le (St w0 ds n e Γ) X:=kF (fun h s=>by
  subst h1 h2 hx
  obtain ⟨h1,l1,a1,s1⟩:=Bun.fold (tk h s)
  exact ⟨h1,l1,⟨cb,m1,m2,m3,m4,va,vc,F1,F2,F3,F4,V,h3,a1⟩,s1⟩) k
end
def feA (x:FS) (k t o:Int):List V4F × Int :=
  if k=1 then (x.vs.set o.toNat (rdV t.toNat (thF x.v t) x.v.ck.n (x.vs.getD o.toNat f0V)).1,x.cost+(rdV t.toNat (thF x.v t) x.v.ck.n (x.vs.getD o.toNat f0V)).2)
  else if k=2 then (x.vs.set o.toNat (wrV t.toNat (thF x.v t) x.v.ck.n (x.vs.getD o.toNat f0V)).1,x.cost+(wrV t.toNat (thF x.v t) x.v.ck.n (x.vs.getD o.toNat f0V)).2)
  else (x.vs,x.cost)
def feF (x:FS) (k t o:Int):FS:=if vcanF x.v k t o then ⟨vnF x.v k t o,(feA x k t o).1,(feA x k t o).2⟩ else x
def feE (x:FS) (k t o:Int):Int:=if vcanF x.v k t o then 0 else 6
theorem acc_obj {x:CS} {k t o:Int} (hc:canF x k t o) (hk:k=1∨k=2):0≤o∧o < x.va:=by
  rcases hc with ⟨h1,h2,-⟩ | ⟨h1,h0,h2⟩
  · omega
  · unfold okK at h2
    rcases h2 with h | h | h | h | h | h | h | h <;> omega
theorem fe_rd {x:FS} {t o:Int} {k:Int} {l:List Int} {w:V4F} (hv:vcanF x.v k t o) (hk:k=1) (hw:x.vs[o.toNat]?=some w) (hl:x.v.th t=some l):feF x k t o=⟨vnF x.v k t o,x.vs.set o.toNat (rdV t.toNat l x.v.ck.n w).1,x.cost+(rdV t.toNat l x.v.ck.n w).2⟩:=by
  rw [feF,if_pos hv,feA,if_pos hk,thF_eq hl,getD_some hw]
theorem fe_wr {x:FS} {t o:Int} {k:Int} {l:List Int} {w:V4F} (hv:vcanF x.v k t o) (hk:k=2) (hw:x.vs[o.toNat]?=some w) (hl:x.v.th t=some l):feF x k t o=⟨vnF x.v k t o,x.vs.set o.toNat (wrV t.toNat l x.v.ck.n w).1,x.cost+(wrV t.toNat l x.v.ck.n w).2⟩:=by
  rw [feF,if_pos hv,feA,if_neg Om,if_pos hk,thF_eq hl,getD_some hw]
theorem fe_no {x:FS} {k t o:Int} (hv:vcanF x.v k t o) (k1:¬ k=1) (k2:¬ k=2):feF x k t o=⟨vnF x.v k t o,x.vs,x.cost⟩:=by
  rw [feF,if_pos hv,feA,if_neg k1,if_neg k2]
theorem flN_rng {f n:Int} (h:-1≤f) (h2:f < n+1) (hn:0≤n):-1≤flN f n∧flN f n < n+1:=by unfold flN;split <;> omega
theorem ite_rng {p:Prop} [Decidable p] {f g n:Int} (h:-1≤f∧f < n+1) (h2:-1≤g∧g < n+1):-1≤(if p then f else g)∧(if p then f else g) < n+1:=by split <;> assumption
/-- What is kept of a variable stays in its bounds. -/
def FOK (n:Int) (w:V4F):Prop:=w.1 < 18446744073709551616∧w.2.1 < 18446744073709551616∧(∀ s,w.2.2.1=some s→CV s)∧-1≤w.2.2.2∧w.2.2.2 < n
theorem rdV_ok {t:Nat} {l:List Int} {n:Int} {w:V4F} (ht:t < 65535) (hl:CV l) (hn:0≤n) (hw:FOK n w):FOK (n+1) (rdV t l n w).1∧0≤(rdV t l n w).2∧(rdV t l n w).2≤1:=by
  obtain ⟨a,b,c,d,e⟩:=hw
  have hg:=g_rng hl.rng (by decide) t
  have hp:=pk_lt hl ht
  have hfl:=flN_rng d (show w.2.2.2 < n+1 by omega) hn
  have hff:∀ (p:Prop) [Decidable p],-1≤(if p then w.2.2.2 else flN w.2.2.2 n)∧(if p then w.2.2.2 else flN w.2.2.2 n) < n+1:=fun p _=>ite_rng ⟨d,by omega⟩ hfl
  have hw':FOK (n+1) w:=⟨a,b,c,d,by omega⟩
  unfold rdV
  split
  · rename_i s hs
    split
    · exact ⟨hw',by simp,by simp⟩
    · exact ⟨⟨a,b,fun q hq=>by simp at hq;rw [← hq];exact stL_cv (c s hs) ht hg.1 hg.2,hff _⟩,by simp,by simp⟩
  · split
    · exact ⟨hw',by simp,by simp⟩
    split
    · exact ⟨⟨a,hp,fun q hq=>by simp at hq,hff _⟩,by simp,by simp⟩
    · refine ⟨⟨a,by simp,fun q hq=>?_,hff _⟩,by simp,by simp⟩
      simp at hq
      rw [← hq]
      have het:=epT_lt w.2.1
      have hec:(epC w.2.1:Int)≤maxC:=by
        unfold epC;split
        · simp only [maxC];omega
        · decide
      exact stL_cv (stL_cv nil_cv het Om hec) ht hg.1 hg.2
theorem wrV_ok {t:Nat} {l:List Int} {n:Int} {w:V4F} (ht:t < 65535) (hl:CV l) (hn:0≤n) (hw:FOK n w):FOK (n+1) (wrV t l n w).1∧0≤(wrV t l n w).2∧(wrV t l n w).2≤1:=by
  obtain ⟨a,b,c,d,e⟩:=hw
  have hp:=pk_lt hl ht
  have hfl:=flN_rng d (show w.2.2.2 < n+1 by omega) hn
  have hff:∀ (p:Prop) [Decidable p],-1≤(if p then w.2.2.2 else flN w.2.2.2 n)∧(if p then w.2.2.2 else flN w.2.2.2 n) < n+1:=fun p _=>ite_rng ⟨d,by omega⟩ hfl
  unfold wrV
  split
  · exact ⟨⟨a,b,c,d,by show w.2.2.2 < n+1;omega⟩,by simp,by simp⟩
  split
  · refine ⟨⟨hp,b,fun q hq=>by simp at hq,?_⟩,by simp,by simp⟩
    exact ite_rng (hff _) (flN_rng (hff _).1 (hff _).2 hn)
  · exact ⟨⟨hp,b,fun q hq=>by simp at hq,hff _⟩,by simp,by simp⟩
theorem vn_th {x:VS} (hx:VInv x) {k t o:Int} (hv:vcanF x k t o) {u:Int} {q:List Int} (h:(vnF x k t o).th u=some q):(∃ q0,x.th u=some q0∧∀ i,q0.getD i 0≤q.getD i 0)∨(k=7∧u=o∧u≠t∧q=stL (thF x t) o.toNat 1):=by
  obtain ⟨l,hth⟩:=th_some hx (can_th hv.1)
  have hlc:=hx.thc _ _ hth
  have hlt:=thF_eq hth
  obtain ⟨o5,o7,o9,o10,o11⟩:=can_obj hx.ck hv.1
  have nn:∀ {z:List Int},CV z→∀ i:Nat,0≤z.getD i 0:=fun hz i=>(g_rng hz.rng (by decide) i).1
  have mge:∀ {m:Option (List Int)},(∀ z,m=some z→CV z)→∀ i:Nat,l.getD i 0≤(mgF m l).getD i 0:=fun {m} hm i=>by
    cases m with
    | none=>exact Int.le_refl _
    | some z=>show _≤(jn l z).getD i 0;rw [jn_g hlc (hm z rfl)];omega
  have key:∀ {L:List Int},(∀ i,l.getD i 0≤L.getD i 0)→upd x.th t (some L) u=some q→∃ q0,x.th u=some q0∧∀ i,q0.getD i 0≤q.getD i 0:=fun hL h=>by
    rcases upd_some h with ⟨e,h⟩ | ⟨-,h⟩
    · cases h;exact ⟨l,by rw [e];exact hth,hL⟩
    · exact ⟨q,h,fun _=>Int.le_refl _⟩
  have hic:∀ i,l.getD i 0≤(icL l t.toNat).getD i 0:=fun i=>by
    rw [icL_g];split
    · rename_i e;subst e;omega
    · exact Int.le_refl _
  by_cases k5:k=5
  · rw [vn5 hth k5] at h;exact .inl (key (mge (hx.lkc _)) h)
  by_cases k3:k=3
  · rw [vn3 hth k3] at h;exact .inl (key (mge (hx.voc _)) h)
  by_cases k8:k=8
  · rw [vn8 hth k8] at h;exact .inl (key (mge (hx.thc _)) h)
  by_cases k10:k=10
  · rw [vn10 hth k10] at h
    obtain ⟨p,hp,-⟩:=rd_some hx (o10 k10).1 (o10 k10).2.2
    refine .inl (key (fun i=>?_) h)
    rw [hlt,rdF,hp]
    show _≤(jn l p.1).getD i 0
    rw [jn_g hlc (hx.rdc _ _ hp)];omega
  by_cases k6:k=6
  · rw [vn6 hth k6] at h;exact .inl (key hic h)
  by_cases k4:k=4
  · rw [vn4 hth k4] at h;exact .inl (key hic h)
  by_cases k9:k=9
  · rw [vn9 hth k9] at h;exact .inl (key hic h)
  by_cases k7:k=7
  · rw [vn7 hth k7] at h
    rcases upd_some h with ⟨rfl,h⟩ | ⟨hne,h⟩
    · cases h;exact .inl ⟨l,hth,hic⟩
    · rcases upd_some h with ⟨rfl,h⟩ | ⟨-,h⟩
      · cases h;exact .inr ⟨k7,rfl,hne,by rw [hlt]⟩
      · exact .inl ⟨q,h,fun _=>Int.le_refl _⟩
  rw [vn0 k5 k3 k8 k10 k6 k4 k9 k7] at h
  exact .inl ⟨q,h,fun _=>Int.le_refl _⟩
theorem nx_all {x:CS} {k t o:Int} (h:canF x k t o):(nxF x k t o).n=x.n+1∧(nxF x k t o).va=x.va∧(nxF x k t o).th=x.th:=by
  obtain ⟨n5,n6,n7,n9,n10,n11,nn⟩:=nxF_k h
  by_cases k5:k=5
  · rw [n5 k5];exact ⟨rfl,rfl,rfl⟩
  by_cases k6:k=6
  · rw [n6 k6];exact ⟨rfl,rfl,rfl⟩
  by_cases k7:k=7
  · rw [n7 k7];exact ⟨rfl,rfl,rfl⟩
  by_cases k9:k=9
  · rw [n9 k9];exact ⟨rfl,rfl,rfl⟩
  by_cases k10:k=10
  · rw [n10 k10];exact ⟨rfl,rfl,rfl⟩
  by_cases k11:k=11
  · rw [n11 k11];exact ⟨rfl,rfl,rfl⟩
  rw [nn k5 k6 k7 k9 k10 k11];exact ⟨rfl,rfl,rfl⟩
theorem fe_inv {x:FS} (hx:FInv x) (k t o:Int):FInv (feF x k t o):=by
  by_cases hv:vcanF x.v k t o
  · obtain ⟨l,hth⟩:=th_some hx.v (can_th hv.1)
    obtain ⟨t0,t1⟩:=th_rng hx.v (can_th hv.1)
    have hlc:=hx.v.thc _ _ hth
    obtain ⟨h1,h2,h3⟩:=nx_all hv.1
    have hn0:=hx.v.ck.n0
    have hlen:=hx.len
    obtain ⟨o5,o7,o9,o10,o11⟩:=can_obj hx.v.ck hv.1
    have hA:∃ Y z,feF x k t o=⟨vnF x.v k t o,Y,z⟩∧Y.length=x.vs.length∧(∀ w∈Y,FOK (x.v.ck.n+1) w)∧x.cost≤z∧z≤x.cost+1:=by
      have up:∀ w∈x.vs,FOK (x.v.ck.n+1) w:=fun w hw=>by
        obtain ⟨a,b,c,d,e⟩:=hx.vs w hw
        exact ⟨a,b,c,d,by omega⟩
      by_cases k1:k=1
      · obtain ⟨p0,p1⟩:=acc_obj hv.1 (.inl k1)
        obtain ⟨w,hw⟩:=cP (l:=x.vs) (i:=o.toNat) Om
        obtain ⟨q1,q2,q3⟩:=rdV_ok (t:=t.toNat) (n:=x.v.ck.n) Om hlc hn0 (hx.vs w (List.mem_of_getElem? hw))
        refine ⟨_,_,fe_rd hv k1 hw hth,by rw [List.length_set],fun z hz=>?_,by omega,by omega⟩
        rcases List.mem_or_eq_of_mem_set hz with hz | rfl
        · exact up z hz
        · exact q1
      by_cases k2:k=2
      · obtain ⟨p0,p1⟩:=acc_obj hv.1 (.inr k2)
        obtain ⟨w,hw⟩:=cP (l:=x.vs) (i:=o.toNat) Om
        obtain ⟨q1,q2,q3⟩:=wrV_ok (t:=t.toNat) (n:=x.v.ck.n) Om hlc hn0 (hx.vs w (List.mem_of_getElem? hw))
        refine ⟨_,_,fe_wr hv k2 hw hth,by rw [List.length_set],fun z hz=>?_,by omega,by omega⟩
        rcases List.mem_or_eq_of_mem_set hz with hz | rfl
        · exact up z hz
        · exact q1
      · exact ⟨_,_,fe_no hv k1 k2,rfl,up,Int.le_refl _,by omega⟩
    obtain ⟨Y,z,hF,hY,hok,hz1,hz2⟩:=hA
    have hc0:=hx.c0
    have hck:=vn_ck (x:=x.v) (k:=k) (t:=t) (o:=o)
    rw [hF]
    refine ⟨next_vinv hx.v hv,by show (Y.length:Int)=(vnF x.v k t o).ck.va;rw [hY,hck,h2];exact hlen,fun w hw=>?_,by show 0≤z∧z≤(vnF x.v k t o).ck.n;rw [hck,h1];omega,fun u q h=>?_,fun b r hb hr=>?_,fun b r p hb h hr=>?_⟩
    · have:=hok w hw
      show w.1 < _∧w.2.1 < _∧_∧_∧w.2.2.2 < (vnF x.v k t o).ck.n
      rw [hck,h1];exact this
    · rcases vn_th hx.v hv h with ⟨q0,h4,h5⟩ | ⟨k7,rfl,hne,rfl⟩
      · have:=hx.own u q0 h4
        have:=h5 u.toNat
        omega
      · rw [stL_g,if_pos rfl];exact Int.le_refl _
    · show (vnF x.v k t o).rd (b,r)=none
      change (opF (vnF x.v k t o).ck b).1 < r at hr
      rw [hck,opF_next hx.v.ck hv.1 hb] at hr
      have hold:(opF x.v.ck b).1 < r:=by
        split at hr
        · rename_i e
          rw [e.2]
          unfold arrF at hr
          split at hr
          · simp only at hr;omega
          · exact hr
        · exact hr
      have h0:=hx.rn b r hb hold
      rw [vn_rd]
      split
      · rename_i k10
        by_cases e:(b,r)=rdK x.v t o
        · exfalso
          obtain ⟨q1,q2,q3⟩:=o10 k10
          obtain ⟨p,hp,-⟩:=rd_some hx.v q1 q3
          rw [e,rdK,hp] at h0;cases h0
        · rw [sB e];exact h0
      · split
        · rw [sB (fun e=>by simp only [Prod.mk.injEq] at e;rw [e.1] at hold;omega)];exact h0
        · exact h0
    · change (vnF x.v k t o).rd (b,r)=some p at h
      show p.2=(vnF x.v k t o).ck.pa.getD b.toNat 0
      change r=(opF (vnF x.v k t o).ck b).1 at hr
      rw [hck,opF_next hx.v.ck hv.1 hb] at hr
      rw [hck,nx_pa]
      rw [vn_rd] at h
      by_cases k10:k=10
      · rw [if_pos k10] at h
        rw [if_neg Om] at hr
        rcases upd_some h with ⟨e,h⟩ | ⟨-,h⟩
        · exfalso
          obtain ⟨q1,q2,q3⟩:=o10 k10
          simp only [rdK,Prod.mk.injEq] at e
          have:=q2.2
          rw [← q3,← e.2,← e.1] at this;omega
        · exact hx.rp b r p hb h hr
      · rw [if_neg k10] at h
        by_cases k9:k=9
        · rw [if_pos k9] at h
          rcases upd_some h with ⟨e,h⟩ | ⟨hne,h⟩
          · cases h
            simp only [Prod.mk.injEq] at e
            rw [e.1]
          · by_cases eb:b=o
            · rw [if_pos ⟨k9,eb⟩] at hr
              subst eb
              unfold arrF at hr
              split at hr
              · simp only at hr
                have h7:=hx.rn b r hb Om
                rw [sB hne,h7] at h;cases h
              · exact absurd (by rw [hr]) hne
            · rw [if_neg (fun e=>eb e.2)] at hr
              exact hx.rp b r p hb h hr
        · rw [if_neg k9] at h
          rw [if_neg (fun e=>k9 e.1)] at hr
          exact hx.rp b r p hb h hr
  · rw [feF,if_neg hv];exact hx
theorem vmax {x:VS} {k t o:Int} {l:List Int} (hc:canF x.ck k t o) (hth:x.th t=some l) (hlc:CV l):vcanF x k t o↔(l.getD t.toNat 0=maxC→¬ relK k):=by
  have:=g_rng hlc.rng (by decide) t.toNat
  unfold vcanF
  rw [thF_eq hth]
  constructor
  · intro h hm hr;have:=h.2 hr;omega
  · intro h;refine ⟨hc,fun hr=>?_⟩
    have:l.getD t.toNat 0≠maxC:=fun e=>h e hr
    omega
end Go.Ab.Fa
set_option linter.unusedVariables false
set_option linter.unusedSimpArgs false
set_option maxRecDepth 100000
namespace Go.Ab.Fa
open Go Go.Proofs Go.Ab Go.Ab.Fe Go.Ab.Vc Go.Ab.Dj
theorem none_spec (b cb:Nat) (v1 v2 v3 v4 v5 v6 v7:Value):Spec Try.prog 32 [.pointer (some ⟨b,0,none⟩)] [cells b 0 [.pointer (some ⟨cb,0,none⟩),v1,v2,v3,v4,v5,v6,v7]] (fun (_:Unit)=>.bool false) (fun _=>True) (fun _=>[cells b 0 [.pointer (some ⟨cb,0,none⟩),v1,v2,v3,v4,v5,v6,v7]]):=by
 refine kP (n:=12) Try.func32 rfl rfl rfl ?_
 intro Γ w0
 simp only [argE,List.cons_append,List.nil_append,Nat.zero_add,Nat.reduceAdd]
 refine qG (qC (.q 0 (.done)) Kr ?_)
 refine qR rfl rfl rfl rfl (qS (qQ (qG (qC (.q 0 (.q 1 (.q 2 (.q 3 (.q 4 (.q 5 (.q 6 (.q 7 (.q 8 (.q 9 (.done))))))))))) Kr ?_))))
 refine qK rfl rfl rfl rfl (cY rfl rfl rfl rfl υ'27 ?_)
 refine kH 4 rfl (v':=.bool false) rfl ?_
 refine qK rfl rfl rfl rfl (qK rfl rfl rfl rfl (qX rfl rfl rfl rfl (qL (k:=0) rfl rfl rfl rfl υ'81 rfl ζ'76 rfl ?_)))
 refine qP (j:=0) rfl rfl rfl rfl α'76 Tk Az (by rfl) ?_
 refine cY rfl rfl rfl rfl Try.underlying76 ?_
 refine kH 10 rfl (v':=.bool false) rfl ?_
 refine kC rfl rfl rfl rfl rfl (qR rfl rfl rfl rfl (qS (qW [2] (e':=[(2,_)]) rfl ?_)))
 refine qQ (qJ (cR rfl rfl (()) (by first | rfl | (first | rfl | (congr 1;done) | (congr 1 <;> first | rfl | omega | (simp;done) | (simp;omega)))) (by trivial) ?_))
 exact Tf
theorem event_no (pa:Option Addr) (pc:Nat) (po:Option Addr) (poc b:Nat) (x:FS) (hx:FInv x) (hn:x.v.ck.n≤100000000000000) (pl:List Int) (hpl:x.v.ck.pa=pl) (k t o:Int) (hc:¬ canF x.v.ck k t o):Spec Try.prog 14 [.pointer (some ⟨b,0,none⟩),.agg #[.int .i64 k,.int .i64 t,.int .i64 o]] [dfR pa pc po poc b x,own 1 encZ pa pc pl,own 1 encZ po poc pl] (fun (_:Unit)=>.int .i64 6) (fun _=>True) (fun _=>[dfR pa pc po poc b x,own 1 encZ pa pc pl,own 1 encZ po poc pl]):=by
 refine kP (n:=141) Try.func14 rfl rfl rfl ?_
 intro Γ w0
 simp only [argE,List.cons_append,List.nil_append,Nat.zero_add,Nat.reduceAdd]
 refine qG (qC ((.l 0 [] (.q 1 (.done)))) Kr ?_)
 refine sX rfl rfl rfl rfl (us:=[_,_,_]) rfl ?_
 intro b3
 refine qV (qR rfl rfl rfl rfl (qS (qQ (qG (qG ?_)))))
 have hcc:=hx.c0
 have hlen:=hx.len
 have hn0:=hx.v.ck.n0
 refine cK (A:=dfR pa pc po poc b x) Tk ?_
 refine df_open fun cb m1 m2 m3 m4 va vc F1 F2 F3 F4 V hV=>?_
 refine qC (.q 0 ((.l 1 [] (.done)))) Kr ?_
 refine qK rfl rfl rfl rfl ?_
 have sp_1:=Fa.none_spec b cb (.slice po x.v.ck.pa.length poc) (.map (some m1)) (.map (some m2)) (.map (some m3)) (.map (some m4)) (.slice va x.vs.length vc) (.int .i64 x.cost)
 refine qM rfl rfl rfl rfl rfl rfl κ'32 (sp_1) Ts ?_
 rintro ⟨⟩ -
 try simp only [List.cons_append,List.nil_append]
 refine qV (qS (qQ (kB rfl ?_)))
 refine qF (qQ (qG (kX rfl (.q 0 (.q 1 (.q 2 (.q 3 (.q 4 (.q 5 ((.alt (.l 6 [] (.q 7 (.q 8 (.q 9 ((.l 10 [] ((.l 11 [] (.q 12 (.done)))))))))) (.l 10 [3,5] ((.l 6 [] (.q 7 (.q 8 (.q 9 ((.l 11 [] (.q 12 (.done)))))))))))))))))) Kr ?_)))
 refine qK rfl rfl rfl rfl (qX rfl rfl rfl rfl (qL (k:=0) rfl rfl rfl rfl υ'81 rfl ζ'76 rfl ?_))
 refine qP (j:=0) rfl rfl rfl rfl α'76 Tk Az (by rfl) ?_
 refine qL (k:=1) rfl rfl rfl rfl υ'36 rfl ζ'3 rfl ?_
 refine qP (j:=1) rfl rfl rfl rfl α'3 Tk Az (by rfl) ?_
 refine r_alt ?_ ?_
 ·
  have sp_2:=Fe.stand_spec pa pc cb x.v.ck t
  refine qM rfl rfl rfl rfl rfl rfl κ'45 (sp_2) Ts ?_
  rintro ⟨⟩ -
  try simp only [List.cons_append,List.nil_append]
  refine qV (qK rfl rfl rfl rfl (kW rfl rfl rfl rfl rfl (kW rfl rfl rfl rfl rfl (cF rfl rfl rfl ω'107 (zs:=[.int .i64 0,.int .i64 0,.int .i64 0]) rfl ?_))))
  intro b5
  refine qV (kR (j:=0) rfl rfl rfl rfl ζ'107 (us:=[_,_,_]) rfl rfl rfl Tk Az (by first | decide | (simp;done) | omega) ?_)
  simp only [setL,List.set]
  refine qV (qR rfl rfl rfl rfl (qS (qW [0,3,5] (e':=[(0,_),(3,_),(5,_)]) rfl ?_)))
  refine qQ (qG (qC (.q 0 (.q 1 (.q 2 (.q 3 ((.l 4 [] (.q 5 (.done)))))))) Kr ?_))
  refine qK rfl rfl rfl rfl (qX rfl rfl rfl rfl (qL (k:=0) rfl rfl rfl rfl υ'81 rfl ζ'76 rfl ?_))
  refine qP (j:=0) rfl rfl rfl rfl α'76 Tk Az (by rfl) ?_
  have sp_3:=Fe.len_spec pa pc cb x.v.ck
  refine qM rfl rfl rfl rfl rfl rfl κ'46 (sp_3) Ts ?_
  rintro ⟨⟩ -
  try simp only [List.cons_append,List.nil_append]
  refine qV (qR rfl rfl rfl rfl (qS (qW [0,3,5,7] (e':=[(0,_),(3,_),(5,_),(7,_)]) rfl ?_)))
  refine qQ (qG (qG (kX rfl (.q 0 (.q 1 (.q 2 (.q 3 (.q 4 ((.l 5 [] (.q 6 (.q 7 (.q 8 (.q 9 (.q 10 (.q 11 (.q 12 (.q 13 (.q 14 (.q 15 (.q 16 ((.l 17 [] (.q 18 (.q 19 (.q 20 (.q 21 ((.l 22 [] (.q 23 (.q 24 (.done))))))))))))))))))))))))))))) Kr ?_)))
  refine qK rfl rfl rfl rfl (qX rfl rfl rfl rfl (qL (k:=0) rfl rfl rfl rfl υ'81 rfl ζ'76 rfl ?_))
  refine qP (j:=0) rfl rfl rfl rfl α'76 Tk Az (by rfl) ?_
  refine kN rfl rfl rfl rfl α'36 ζ'36 Tk 0 (us:=[_,_,_]) Az rfl rfl ?_
  have sp_4:=Fe.can_spec pa pc cb x.v.ck hx.v.ck k t o
  refine qM rfl rfl rfl rfl rfl rfl κ'47 (sp_4) Ts ?_
  rintro ⟨⟩ -
  try simp only [List.cons_append,List.nil_append]
  refine qV (rL rfl rfl rfl rfl ?_)
  refine qK rfl rfl rfl rfl ?_
  refine s_bool_np 33 rfl (fun hg=>?_) (fun hg=>by exfalso;exact hc hg)
  refine qY rfl rfl rfl rfl (qY rfl rfl rfl rfl (qY rfl rfl rfl rfl (qY rfl rfl rfl rfl (qY rfl rfl rfl rfl (qY rfl rfl rfl rfl (qY rfl rfl rfl rfl (qY rfl rfl rfl rfl (qY rfl rfl rfl rfl ?_))))))))
  refine sZ rfl rfl rfl rfl ?_
  refine qY rfl rfl rfl rfl (qY rfl rfl rfl rfl (qY rfl rfl rfl rfl (qY rfl rfl rfl rfl (sZ rfl rfl rfl rfl ?_))))
  refine qY rfl rfl rfl rfl (kZ rfl rfl rfl rfl rfl (qS (qW [0,3,5,7,50] (e':=[(0,_),(3,_),(5,_),(7,_),(50,_)]) rfl ?_)))
  refine qQ (cN rfl ?_)
  refine qG (qC (.q 0 (.done)) Kr ?_)
  refine qR rfl rfl rfl rfl (qS (qW [4] (e':=[(4,_)]) rfl ?_))
  refine qQ (qJ (qD (df_fold (b:=b) x (pa:=pa) (pc:=pc) (po:=po) (poc:=poc) (cb:=cb) (m1:=m1) (m2:=m2) (m3:=m3) (m4:=m4) (va:=va) (vc:=vc) (F1:=F1) (F2:=F2) (F3:=F3) (F4:=F4) (V:=V) Ts (by rfl) (by rfl) (by rfl) (by first | exact hV | simp) ?_)))
  refine cR rfl rfl (()) (by first | rfl | (first | rfl | (congr 1;done) | (congr 1 <;> first | rfl | omega | (simp;done) | (simp;omega)))) (by trivial) ?_
  exact Tf
 refine cF rfl rfl rfl ω'107 (zs:=[.int .i64 0,.int .i64 0,.int .i64 0]) rfl ?_
 intro b5
 refine qH (q:=0) rfl rfl rfl α'76 Tk Az (by rfl) ?_
 refine qH (q:=1) rfl rfl rfl α'3 Tk Az (by rfl) ?_
 refine qV ?_
 have sp_5:=Fe.stand_spec pa pc cb x.v.ck t
 refine qM rfl rfl rfl rfl rfl rfl κ'45 (sp_5) Ts ?_
 rintro ⟨⟩ -
 try simp only [List.cons_append,List.nil_append]
 refine qV (qK rfl rfl rfl rfl (kW rfl rfl rfl rfl rfl (kW rfl rfl rfl rfl rfl (kR (j:=0) rfl rfl rfl rfl ζ'107 (us:=[_,_,_]) rfl rfl rfl Tk Az (by first | decide | (simp;done) | omega) ?_))))
 simp only [setL,List.set]
 refine qV (qR rfl rfl rfl rfl (qS (qW [0,3,5] (e':=[(0,_),(3,_),(5,_)]) rfl ?_)))
 refine qQ (qG (qC (.q 0 (.q 1 (.q 2 (.q 3 ((.l 4 [] (.q 5 (.done)))))))) Kr ?_))
 refine qK rfl rfl rfl rfl (qX rfl rfl rfl rfl (qL (k:=0) rfl rfl rfl rfl υ'81 rfl ζ'76 rfl ?_))
 refine qP (j:=0) rfl rfl rfl rfl α'76 Tk Az (by rfl) ?_
 have sp_6:=Fe.len_spec pa pc cb x.v.ck
 refine qM rfl rfl rfl rfl rfl rfl κ'46 (sp_6) Ts ?_
 rintro ⟨⟩ -
 try simp only [List.cons_append,List.nil_append]
 refine qV (qR rfl rfl rfl rfl (qS (qW [0,3,5,7] (e':=[(0,_),(3,_),(5,_),(7,_)]) rfl ?_)))
 refine qQ (qG (qG (kX rfl (.q 0 (.q 1 (.q 2 (.q 3 (.q 4 ((.l 5 [] (.q 6 (.q 7 (.q 8 (.q 9 (.q 10 (.q 11 (.q 12 (.q 13 (.q 14 (.q 15 (.q 16 ((.l 17 [] (.q 18 (.q 19 (.q 20 (.q 21 ((.l 22 [] (.q 23 (.q 24 (.done))))))))))))))))))))))))))))) Kr ?_)))
 refine qK rfl rfl rfl rfl (qX rfl rfl rfl rfl (qL (k:=0) rfl rfl rfl rfl υ'81 rfl ζ'76 rfl ?_))
 refine qP (j:=0) rfl rfl rfl rfl α'76 Tk Az (by rfl) ?_
 refine kN rfl rfl rfl rfl α'36 ζ'36 Tk 0 (us:=[_,_,_]) Az rfl rfl ?_
 have sp_7:=Fe.can_spec pa pc cb x.v.ck hx.v.ck k t o
 refine qM rfl rfl rfl rfl rfl rfl κ'47 (sp_7) Ts ?_
 rintro ⟨⟩ -
 try simp only [List.cons_append,List.nil_append]
 refine qV (rL rfl rfl rfl rfl ?_)
 refine qK rfl rfl rfl rfl ?_
 refine s_bool_np 33 rfl (fun hg=>?_) (fun hg=>by exfalso;exact hc hg)
 refine qY rfl rfl rfl rfl (qY rfl rfl rfl rfl (qY rfl rfl rfl rfl (qY rfl rfl rfl rfl (qY rfl rfl rfl rfl (qY rfl rfl rfl rfl (qY rfl rfl rfl rfl (qY rfl rfl rfl rfl (qY rfl rfl rfl rfl ?_))))))))
 refine sZ rfl rfl rfl rfl ?_
 refine qY rfl rfl rfl rfl (qY rfl rfl rfl rfl (qY rfl rfl rfl rfl (qY rfl rfl rfl rfl (sZ rfl rfl rfl rfl ?_))))
 refine qY rfl rfl rfl rfl (kZ rfl rfl rfl rfl rfl (qS (qW [0,3,5,7,50] (e':=[(0,_),(3,_),(5,_),(7,_),(50,_)]) rfl ?_)))
 refine qQ (cN rfl ?_)
 refine qG (qC (.q 0 (.done)) Kr ?_)
 refine qR rfl rfl rfl rfl (qS (qW [4] (e':=[(4,_)]) rfl ?_))
 refine qQ (qJ (qD (df_fold (b:=b) x (pa:=pa) (pc:=pc) (po:=po) (poc:=poc) (cb:=cb) (m1:=m1) (m2:=m2) (m3:=m3) (m4:=m4) (va:=va) (vc:=vc) (F1:=F1) (F2:=F2) (F3:=F3) (F4:=F4) (V:=V) Ts (by rfl) (by rfl) (by rfl) (by first | exact hV | simp) ?_)))
 refine cR rfl rfl (()) (by first | rfl | (first | rfl | (congr 1;done) | (congr 1 <;> first | rfl | omega | (simp;done) | (simp;omega)))) (by trivial) ?_
 exact Tf
theorem event_max (pa:Option Addr) (pc:Nat) (po:Option Addr) (poc b:Nat) (x:FS) (hx:FInv x) (hn:x.v.ck.n≤100000000000000) (pl:List Int) (hpl:x.v.ck.pa=pl) (k:Int) (t:Nat) (o:Int) (hc:canF x.v.ck k ((t:Nat):Int) o) (hv:¬ vcanF x.v k ((t:Nat):Int) o):Spec Try.prog 14 [.pointer (some ⟨b,0,none⟩),.agg #[.int .i64 k,.int .i64 ((t:Nat):Int),.int .i64 o]] [dfR pa pc po poc b x,own 1 encZ pa pc pl,own 1 encZ po poc pl] (fun (_:Unit)=>.int .i64 6) (fun _=>True) (fun _=>[dfR pa pc po poc b x,own 1 encZ pa pc pl,own 1 encZ po poc pl]):=by
 refine kP (n:=141) Try.func14 rfl rfl rfl ?_
 intro Γ w0
 simp only [argE,List.cons_append,List.nil_append,Nat.zero_add,Nat.reduceAdd]
 refine qG (qC ((.l 0 [] (.q 1 (.done)))) Kr ?_)
 refine sX rfl rfl rfl rfl (us:=[_,_,_]) rfl ?_
 intro b3
 refine qV (qR rfl rfl rfl rfl (qS (qQ (qG (qG ?_)))))
 have hcc:=hx.c0
 have hlen:=hx.len
 have hn0:=hx.v.ck.n0
 obtain ⟨l,hth⟩:=th_some hx.v (can_th hc)
 obtain ⟨h0,h1⟩:=th_rng hx.v (can_th hc)
 have hlc:=hx.v.thc _ _ hth
 have hll:=hlc.len
 have hvm:=vmax hc hth hlc
 rw [Int.toNat_natCast] at hvm
 have hl1:=hx.own _ _ hth
 rw [Int.toNat_natCast] at hl1
 have hlg:=g_rng hlc.rng (by decide) t
 have htn:t < 65535:=by omega
 refine cK (A:=dfR pa pc po poc b x) Tk ?_
 refine df_open fun cb m1 m2 m3 m4 va vc F1 F2 F3 F4 V hV=>?_
 refine qC (.q 0 ((.l 1 [] (.done)))) Kr ?_
 refine qK rfl rfl rfl rfl ?_
 have sp_1:=Fa.none_spec b cb (.slice po x.v.ck.pa.length poc) (.map (some m1)) (.map (some m2)) (.map (some m3)) (.map (some m4)) (.slice va x.vs.length vc) (.int .i64 x.cost)
 refine qM rfl rfl rfl rfl rfl rfl κ'32 (sp_1) Ts ?_
 rintro ⟨⟩ -
 try simp only [List.cons_append,List.nil_append]
 refine qV (qS (qQ (kB rfl ?_)))
 refine qF (qQ (qG (kX rfl (.q 0 (.q 1 (.q 2 (.q 3 (.q 4 (.q 5 ((.alt (.l 6 [] (.q 7 (.q 8 (.q 9 ((.l 10 [] ((.l 11 [] (.q 12 (.done)))))))))) (.l 10 [3,5] ((.l 6 [] (.q 7 (.q 8 (.q 9 ((.l 11 [] (.q 12 (.done)))))))))))))))))) Kr ?_)))
 refine qK rfl rfl rfl rfl (qX rfl rfl rfl rfl (qL (k:=0) rfl rfl rfl rfl υ'81 rfl ζ'76 rfl ?_))
 refine qP (j:=0) rfl rfl rfl rfl α'76 Tk Az (by rfl) ?_
 refine qL (k:=1) rfl rfl rfl rfl υ'36 rfl ζ'3 rfl ?_
 refine qP (j:=1) rfl rfl rfl rfl α'3 Tk Az (by rfl) ?_
 refine r_alt ?_ ?_
 ·
  have sp_2:=Fe.stand_spec pa pc cb x.v.ck ((t:Nat):Int)
  refine qM rfl rfl rfl rfl rfl rfl κ'45 (sp_2) Ts ?_
  rintro ⟨⟩ -
  try simp only [List.cons_append,List.nil_append]
  refine qV (qK rfl rfl rfl rfl (kW rfl rfl rfl rfl rfl (kW rfl rfl rfl rfl rfl (cF rfl rfl rfl ω'107 (zs:=[.int .i64 0,.int .i64 0,.int .i64 0]) rfl ?_))))
  intro b5
  refine qV (kR (j:=0) rfl rfl rfl rfl ζ'107 (us:=[_,_,_]) rfl rfl rfl Tk Az (by first | decide | (simp;done) | omega) ?_)
  simp only [setL,List.set]
  refine qV (qR rfl rfl rfl rfl (qS (qW [0,3,5] (e':=[(0,_),(3,_),(5,_)]) rfl ?_)))
  refine qQ (qG (qC (.q 0 (.q 1 (.q 2 (.q 3 ((.l 4 [] (.q 5 (.done)))))))) Kr ?_))
  refine qK rfl rfl rfl rfl (qX rfl rfl rfl rfl (qL (k:=0) rfl rfl rfl rfl υ'81 rfl ζ'76 rfl ?_))
  refine qP (j:=0) rfl rfl rfl rfl α'76 Tk Az (by rfl) ?_
  have sp_3:=Fe.len_spec pa pc cb x.v.ck
  refine qM rfl rfl rfl rfl rfl rfl κ'46 (sp_3) Ts ?_
  rintro ⟨⟩ -
  try simp only [List.cons_append,List.nil_append]
  refine qV (qR rfl rfl rfl rfl (qS (qW [0,3,5,7] (e':=[(0,_),(3,_),(5,_),(7,_)]) rfl ?_)))
  refine qQ (qG (qG (s_rest_take (F:=F1) (T:=x.v.th) (S:=[]) ((t:Nat):Int) Tk (by simp) hth fun tv htF=>?_)))
  refine s_vec Tk fun tb ta tc hta=>?_
  subst hta
  refine kX rfl (.q 0 (.q 1 (.q 2 (.q 3 (.q 4 ((.l 5 [] (.q 6 (.q 7 (.q 8 (.q 9 (.q 10 (.q 11 (.q 12 (.q 13 (.q 14 (.q 15 (.q 16 ((.l 17 [] (.q 18 (.q 19 (.q 20 (.q 21 ((.l 22 [] (.q 23 (.q 24 (.done))))))))))))))))))))))))))))) Kr ?_
  refine qK rfl rfl rfl rfl (qX rfl rfl rfl rfl (qL (k:=0) rfl rfl rfl rfl υ'81 rfl ζ'76 rfl ?_))
  refine qP (j:=0) rfl rfl rfl rfl α'76 Tk Az (by rfl) ?_
  refine kN rfl rfl rfl rfl α'36 ζ'36 Tk 0 (us:=[_,_,_]) Az rfl rfl ?_
  have sp_4:=Fe.can_spec pa pc cb x.v.ck hx.v.ck k ((t:Nat):Int) o
  refine qM rfl rfl rfl rfl rfl rfl κ'47 (sp_4) Ts ?_
  rintro ⟨⟩ -
  try simp only [List.cons_append,List.nil_append]
  refine qV (rL rfl rfl rfl rfl ?_)
  refine qK rfl rfl rfl rfl ?_
  refine s_bool_np 33 rfl (fun hg=>by exfalso;exact hg hc) (fun hg=>?_)
  refine qK rfl rfl rfl rfl (qX rfl rfl rfl rfl (qL (k:=2) rfl rfl rfl rfl υ'81 rfl ζ'77 rfl ?_))
  refine qP (j:=2) rfl rfl rfl rfl α'77 Tk Az (by rfl) ?_
  refine qL (k:=1) rfl rfl rfl rfl υ'36 rfl ζ'3 rfl ?_
  refine qP (j:=1) rfl rfl rfl rfl α'3 Tk Az (by rfl) ?_
  refine sL (ek:=ekZ) (ev1:=evA) (F:=F1) (m:=m1) (k:=((t:Nat):Int)) none rfl rfl rfl rfl rfl υ'77 (cW υ'3) ω'86 Tk ?_
  refine kH 40 rfl (v':=.pointer (some ⟨tb,0,none⟩)) (by rw [htF];rfl) ?_
  refine qL (k:=1) rfl rfl rfl rfl υ'36 rfl ζ'3 rfl ?_
  refine qP (j:=1) rfl rfl rfl rfl α'3 Tk Az (by rfl) ?_
  have sp_5:=Vc.get_spec tb l ta l.length tc Ln t
  refine qM rfl rfl rfl rfl rfl rfl κ'48 (sp_5) Ts ?_
  rintro ⟨⟩ -
  try simp only [List.cons_append,List.nil_append]
  refine qV (qN rfl rfl rfl rfl rfl (cS _ _ _ _) ?_)
  refine qK rfl rfl rfl rfl ?_
  refine cL 45 rfl (fun hg=>?_) (fun hg=>by exfalso;exact hg (Classical.byContradiction fun h9=>hv (hvm.2 fun h8=>absurd h8 h9)))
  refine qL (k:=0) rfl rfl rfl rfl υ'36 rfl ζ'34 rfl ?_
  refine qP (j:=0) rfl rfl rfl rfl α'34 Tk Az (by rfl) ?_
  have sp_6:=releases_spec k
  refine qM rfl rfl rfl rfl rfl rfl Try.call49 (sp_6) Ts ?_
  rintro ⟨⟩ -
  try simp only [List.cons_append,List.nil_append]
  refine qV (kZ rfl rfl rfl rfl rfl (kC rfl rfl rfl rfl rfl (qS (qW [0,3,5,7,50] (e':=[(0,_),(3,_),(5,_),(7,_),(50,_)]) rfl ?_))))
  refine qQ ?_
  refine qB rfl (fun hg=>?_) (fun hg=>by exfalso;exact hv (hvm.2 fun _=>hg))
  refine qG (qC (.q 0 (.done)) Kr ?_)
  refine qR rfl rfl rfl rfl (qS (qW [4] (e':=[(4,_)]) rfl ?_))
  refine qQ (qJ (qD (s_vecF tb ta tc l Ts ?_)))
  refine sG (F:=F1) (T:=x.v.th) (S:=[]) ((t:Nat):Int) F1 x.v.th Ts (by simp) htF (fun _ _ _=>rfl) hth (fun _ _ _=>rfl) ?_
  refine df_fold (b:=b) x (pa:=pa) (pc:=pc) (po:=po) (poc:=poc) (cb:=cb) (m1:=m1) (m2:=m2) (m3:=m3) (m4:=m4) (va:=va) (vc:=vc) (F1:=F1) (F2:=F2) (F3:=F3) (F4:=F4) (V:=V) Ts (by rfl) (by rfl) (by rfl) (by first | exact hV | simp) ?_
  refine cR rfl rfl (()) (by first | rfl | (first | rfl | (congr 1;done) | (congr 1 <;> first | rfl | omega | (simp;done) | (simp;omega)))) (by trivial) ?_
  exact Tf
 refine cF rfl rfl rfl ω'107 (zs:=[.int .i64 0,.int .i64 0,.int .i64 0]) rfl ?_
 intro b5
 refine qH (q:=0) rfl rfl rfl α'76 Tk Az (by rfl) ?_
 refine qH (q:=1) rfl rfl rfl α'3 Tk Az (by rfl) ?_
 refine qV ?_
 have sp_7:=Fe.stand_spec pa pc cb x.v.ck ((t:Nat):Int)
 refine qM rfl rfl rfl rfl rfl rfl κ'45 (sp_7) Ts ?_
 rintro ⟨⟩ -
 try simp only [List.cons_append,List.nil_append]
 refine qV (qK rfl rfl rfl rfl (kW rfl rfl rfl rfl rfl (kW rfl rfl rfl rfl rfl (kR (j:=0) rfl rfl rfl rfl ζ'107 (us:=[_,_,_]) rfl rfl rfl Tk Az (by first | decide | (simp;done) | omega) ?_))))
 simp only [setL,List.set]
 refine qV (qR rfl rfl rfl rfl (qS (qW [0,3,5] (e':=[(0,_),(3,_),(5,_)]) rfl ?_)))
 refine qQ (qG (qC (.q 0 (.q 1 (.q 2 (.q 3 ((.l 4 [] (.q 5 (.done)))))))) Kr ?_))
 refine qK rfl rfl rfl rfl (qX rfl rfl rfl rfl (qL (k:=0) rfl rfl rfl rfl υ'81 rfl ζ'76 rfl ?_))
 refine qP (j:=0) rfl rfl rfl rfl α'76 Tk Az (by rfl) ?_
 have sp_8:=Fe.len_spec pa pc cb x.v.ck
 refine qM rfl rfl rfl rfl rfl rfl κ'46 (sp_8) Ts ?_
 rintro ⟨⟩ -
 try simp only [List.cons_append,List.nil_append]
 refine qV (qR rfl rfl rfl rfl (qS (qW [0,3,5,7] (e':=[(0,_),(3,_),(5,_),(7,_)]) rfl ?_)))
 refine qQ (qG (qG (s_rest_take (F:=F1) (T:=x.v.th) (S:=[]) ((t:Nat):Int) Tk (by simp) hth fun tv htF=>?_)))
 refine s_vec Tk fun tb ta tc hta=>?_
 subst hta
 refine kX rfl (.q 0 (.q 1 (.q 2 (.q 3 (.q 4 ((.l 5 [] (.q 6 (.q 7 (.q 8 (.q 9 (.q 10 (.q 11 (.q 12 (.q 13 (.q 14 (.q 15 (.q 16 ((.l 17 [] (.q 18 (.q 19 (.q 20 (.q 21 ((.l 22 [] (.q 23 (.q 24 (.done))))))))))))))))))))))))))))) Kr ?_
 refine qK rfl rfl rfl rfl (qX rfl rfl rfl rfl (qL (k:=0) rfl rfl rfl rfl υ'81 rfl ζ'76 rfl ?_))
 refine qP (j:=0) rfl rfl rfl rfl α'76 Tk Az (by rfl) ?_
 refine kN rfl rfl rfl rfl α'36 ζ'36 Tk 0 (us:=[_,_,_]) Az rfl rfl ?_
 have sp_9:=Fe.can_spec pa pc cb x.v.ck hx.v.ck k ((t:Nat):Int) o
 refine qM rfl rfl rfl rfl rfl rfl κ'47 (sp_9) Ts ?_
 rintro ⟨⟩ -
 try simp only [List.cons_append,List.nil_append]
 refine qV (rL rfl rfl rfl rfl ?_)
 refine qK rfl rfl rfl rfl ?_
 refine s_bool_np 33 rfl (fun hg=>by exfalso;exact hg hc) (fun hg=>?_)
 refine qK rfl rfl rfl rfl (qX rfl rfl rfl rfl (qL (k:=2) rfl rfl rfl rfl υ'81 rfl ζ'77 rfl ?_))
 refine qP (j:=2) rfl rfl rfl rfl α'77 Tk Az (by rfl) ?_
 refine qL (k:=1) rfl rfl rfl rfl υ'36 rfl ζ'3 rfl ?_
 refine qP (j:=1) rfl rfl rfl rfl α'3 Tk Az (by rfl) ?_
 refine sL (ek:=ekZ) (ev1:=evA) (F:=F1) (m:=m1) (k:=((t:Nat):Int)) none rfl rfl rfl rfl rfl υ'77 (cW υ'3) ω'86 Tk ?_
 refine kH 40 rfl (v':=.pointer (some ⟨tb,0,none⟩)) (by rw [htF];rfl) ?_
 refine qL (k:=1) rfl rfl rfl rfl υ'36 rfl ζ'3 rfl ?_
 refine qP (j:=1) rfl rfl rfl rfl α'3 Tk Az (by rfl) ?_
 have sp_10:=Vc.get_spec tb l ta l.length tc Ln t
 refine qM rfl rfl rfl rfl rfl rfl κ'48 (sp_10) Ts ?_
 rintro ⟨⟩ -
 try simp only [List.cons_append,List.nil_append]
 refine qV (qN rfl rfl rfl rfl rfl (cS _ _ _ _) ?_)
 refine qK rfl rfl rfl rfl ?_
 refine cL 45 rfl (fun hg=>?_) (fun hg=>by exfalso;exact hg (Classical.byContradiction fun h9=>hv (hvm.2 fun h8=>absurd h8 h9)))
 refine qL (k:=0) rfl rfl rfl rfl υ'36 rfl ζ'34 rfl ?_
 refine qP (j:=0) rfl rfl rfl rfl α'34 Tk Az (by rfl) ?_
 have sp_11:=releases_spec k
 refine qM rfl rfl rfl rfl rfl rfl Try.call49 (sp_11) Ts ?_
 rintro ⟨⟩ -
 try simp only [List.cons_append,List.nil_append]
 refine qV (kZ rfl rfl rfl rfl rfl (kC rfl rfl rfl rfl rfl (qS (qW [0,3,5,7,50] (e':=[(0,_),(3,_),(5,_),(7,_),(50,_)]) rfl ?_))))
 refine qQ ?_
 refine qB rfl (fun hg=>?_) (fun hg=>by exfalso;exact hv (hvm.2 fun _=>hg))
 refine qG (qC (.q 0 (.done)) Kr ?_)
 refine qR rfl rfl rfl rfl (qS (qW [4] (e':=[(4,_)]) rfl ?_))
 refine qQ (qJ (qD (s_vecF tb ta tc l Ts ?_)))
 refine sG (F:=F1) (T:=x.v.th) (S:=[]) ((t:Nat):Int) F1 x.v.th Ts (by simp) htF (fun _ _ _=>rfl) hth (fun _ _ _=>rfl) ?_
 refine df_fold (b:=b) x (pa:=pa) (pc:=pc) (po:=po) (poc:=poc) (cb:=cb) (m1:=m1) (m2:=m2) (m3:=m3) (m4:=m4) (va:=va) (vc:=vc) (F1:=F1) (F2:=F2) (F3:=F3) (F4:=F4) (V:=V) Ts (by rfl) (by rfl) (by rfl) (by first | exact hV | simp) ?_
 refine cR rfl rfl (()) (by first | rfl | (first | rfl | (congr 1;done) | (congr 1 <;> first | rfl | omega | (simp;done) | (simp;omega)))) (by trivial) ?_
 exact Tf
theorem read_spec (db m1 tb tc t vb of k vc:Nat) (v0 v1 v3 v4 v5 v6:Value) (cost n:Int) (F1:Int→Option (Option Addr)) (ta va:Option Addr) (l:List Int) (V:List P4F) (w0_ r0:Nat) (so:Option Addr) (f0:Int) (hF:F1 ((t:Nat):Int)=some (some ⟨tb,0,none⟩)) (ht:t < 65535) (hl:CV l) (hl1:1≤l.getD t 0) (hc0:0≤cost∧cost≤1000000000000000) (hw0:w0_ < 18446744073709551616) (hr0:r0 < 18446744073709551616) (hv:V[k]?=some (w0_,r0,so,f0)) (ha:va=some ⟨vb,of,none⟩) (sh:Option (List Int)) (hs:∀ s,sh=some s→CV s):Spec Try.prog 51 [.pointer (some ⟨db,0,none⟩),.int .i64 ((t:Nat):Int),.pointer (some ⟨vb,of+k*(3+1),none⟩),.int .i64 n] [cells db 0 [v0,v1,.map (some m1),v3,v4,v5,v6,.int .i64 cost],mapO ekZ evA m1 F1,cells tb 0 [.slice ta l.length tc],own 1 encU ta tc l,own 4 encF va vc V,optA so sh] (fun (r:Option Addr)=>.tuple #[]) (fun r=>True) (fun r=>[cells db 0 [v0,v1,.map (some m1),v3,v4,v5,v6,.int .i64 (cost+(rdV t l n (w0_,r0,sh,f0)).2)],mapO ekZ evA m1 F1,cells tb 0 [.slice ta l.length tc],own 1 encU ta tc l,own 4 encF va vc (V.set k ((rdV t l n (w0_,r0,sh,f0)).1.1,(rdV t l n (w0_,r0,sh,f0)).1.2.1,r,(rdV t l n (w0_,r0,sh,f0)).1.2.2.2)),optA r (rdV t l n (w0_,r0,sh,f0)).1.2.2.1]):=by
  cases sh with
  | none=>exact read_none db m1 tb tc t vb of k vc v0 v1 v3 v4 v5 v6 cost n F1 ta va l V w0_ r0 so f0 hF ht hl hl1 hc0 hw0 hr0 hv ha
  | some s=>exact read_some db m1 tb tc t vb of k vc v0 v1 v3 v4 v5 v6 cost n F1 ta va l V w0_ r0 so f0 hF ht hl hl1 hc0 hw0 hr0 hv ha s (hs s rfl)
theorem write_spec (db m1 tb tc t vb of k vc:Nat) (v0 v1 v3 v4 v5 v6:Value) (cost n:Int) (F1:Int→Option (Option Addr)) (ta va:Option Addr) (l:List Int) (V:List P4F) (w0_ r0:Nat) (so:Option Addr) (f0:Int) (hF:F1 ((t:Nat):Int)=some (some ⟨tb,0,none⟩)) (ht:t < 65535) (hl:CV l) (hl1:1≤l.getD t 0) (hc0:0≤cost∧cost≤1000000000000000) (hw0:w0_ < 18446744073709551616) (hr0:r0 < 18446744073709551616) (hv:V[k]?=some (w0_,r0,so,f0)) (ha:va=some ⟨vb,of,none⟩) (sh:Option (List Int)) (hs:∀ s,sh=some s→CV s):Spec Try.prog 52 [.pointer (some ⟨db,0,none⟩),.int .i64 ((t:Nat):Int),.pointer (some ⟨vb,of+k*(3+1),none⟩),.int .i64 n] [cells db 0 [v0,v1,.map (some m1),v3,v4,v5,v6,.int .i64 cost],mapO ekZ evA m1 F1,cells tb 0 [.slice ta l.length tc],own 1 encU ta tc l,own 4 encF va vc V,optA so sh] (fun (r:Option Addr)=>.tuple #[]) (fun r=>True) (fun r=>[cells db 0 [v0,v1,.map (some m1),v3,v4,v5,v6,.int .i64 (cost+(wrV t l n (w0_,r0,sh,f0)).2)],mapO ekZ evA m1 F1,cells tb 0 [.slice ta l.length tc],own 1 encU ta tc l,own 4 encF va vc (V.set k ((wrV t l n (w0_,r0,sh,f0)).1.1,(wrV t l n (w0_,r0,sh,f0)).1.2.1,r,(wrV t l n (w0_,r0,sh,f0)).1.2.2.2)),optA r (wrV t l n (w0_,r0,sh,f0)).1.2.2.1]):=by
  cases sh with
  | none=>exact write_none db m1 tb tc t vb of k vc v0 v1 v3 v4 v5 v6 cost n F1 ta va l V w0_ r0 so f0 hF ht hl hl1 hc0 hw0 hr0 hv ha
  | some s=>exact write_some db m1 tb tc t vb of k vc v0 v1 v3 v4 v5 v6 cost n F1 ta va l V w0_ r0 so f0 hF ht hl hl1 hc0 hw0 hr0 hv ha s (hs s rfl)
theorem event_can (pa:Option Addr) (pc:Nat) (po:Option Addr) (poc b:Nat) (x:FS) (hx:FInv x) (hn:x.v.ck.n≤100000000000000) (pl:List Int) (hpl:x.v.ck.pa=pl) (k:Int) (t:Nat) (o:Int) (hv:vcanF x.v k ((t:Nat):Int) o):Spec Try.prog 14 [.pointer (some ⟨b,0,none⟩),.agg #[.int .i64 k,.int .i64 ((t:Nat):Int),.int .i64 o]] [dfR pa pc po poc b x,own 1 encZ pa pc pl,own 1 encZ po poc pl] (fun (_:Unit)=>.int .i64 0) (fun _=>True) (fun _=>[dfR pa pc po poc b (feF x k ((t:Nat):Int) o),own 1 encZ pa pc pl,own 1 encZ po poc pl]):=by
 refine kP (n:=141) Try.func14 rfl rfl rfl ?_
 intro Γ w0
 simp only [argE,List.cons_append,List.nil_append,Nat.zero_add,Nat.reduceAdd]
 refine qG (qC ((.l 0 [] (.q 1 (.done)))) Kr ?_)
 refine sX rfl rfl rfl rfl (us:=[_,_,_]) rfl ?_
 intro b3
 refine qV (qR rfl rfl rfl rfl (qS (qQ (qG (qG ?_)))))
 have hcc:=hx.c0
 have hlen:=hx.len
 have hn0:=hx.v.ck.n0
 have hc:=hv.1
 obtain ⟨l,hth⟩:=th_some hx.v (can_th hc)
 obtain ⟨h0,h1⟩:=th_rng hx.v (can_th hc)
 have hlc:=hx.v.thc _ _ hth
 have hll:=hlc.len
 have hvm:=vmax hc hth hlc
 rw [Int.toNat_natCast] at hvm
 have hl1:=hx.own _ _ hth
 rw [Int.toNat_natCast] at hl1
 have hlg:=g_rng hlc.rng (by decide) t
 have htn:t < 65535:=by omega
 refine cK (A:=dfR pa pc po poc b x) Tk ?_
 refine df_open fun cb m1 m2 m3 m4 va vc F1 F2 F3 F4 V hV=>?_
 refine qC (.q 0 ((.l 1 [] (.done)))) Kr ?_
 refine qK rfl rfl rfl rfl ?_
 have sp_1:=Fa.none_spec b cb (.slice po x.v.ck.pa.length poc) (.map (some m1)) (.map (some m2)) (.map (some m3)) (.map (some m4)) (.slice va x.vs.length vc) (.int .i64 x.cost)
 refine qM rfl rfl rfl rfl rfl rfl κ'32 (sp_1) Ts ?_
 rintro ⟨⟩ -
 try simp only [List.cons_append,List.nil_append]
 refine qV (qS (qQ (kB rfl ?_)))
 refine qF (qQ ?_)
 refine c_seqJ (α:=Nat) (fun (sb:Nat)=>True) (fun (sb:Nat)=>[(5,.pointer (some ⟨sb,0,none⟩))]) (fun (sb:Nat)=>[cells sb 0 [.int .i64 (stF x.v.ck ((t:Nat):Int)).1,.int .i64 (stF x.v.ck ((t:Nat):Int)).2.1,.int .i64 (stF x.v.ck ((t:Nat):Int)).2.2]]) [0,3] (er:=[(0,_),(3,_)]) rfl [] Ts ?_ ?_
 ·
  refine kX rfl (.q 0 (.q 1 (.q 2 (.q 3 (.q 4 (.q 5 ((.alt (.l 6 [] (.q 7 (.q 8 (.q 9 ((.l 10 [] ((.l 11 [] (.q 12 (.done)))))))))) (.l 10 [3,5] ((.l 6 [] (.q 7 (.q 8 (.q 9 ((.l 11 [] (.q 12 (.done)))))))))))))))))) Kr ?_
  refine qK rfl rfl rfl rfl (qX rfl rfl rfl rfl (qL (k:=0) rfl rfl rfl rfl υ'81 rfl ζ'76 rfl ?_))
  refine qP (j:=0) rfl rfl rfl rfl α'76 Tk Az (by rfl) ?_
  refine qL (k:=1) rfl rfl rfl rfl υ'36 rfl ζ'3 rfl ?_
  refine qP (j:=1) rfl rfl rfl rfl α'3 Tk Az (by rfl) ?_
  refine r_alt ?_ ?_
  ·
   have sp_2:=Fe.stand_spec pa pc cb x.v.ck ((t:Nat):Int)
   refine qM rfl rfl rfl rfl rfl rfl κ'45 (sp_2) Ts ?_
   rintro ⟨⟩ -
   try simp only [List.cons_append,List.nil_append]
   refine qV (qK rfl rfl rfl rfl (kW rfl rfl rfl rfl rfl (kW rfl rfl rfl rfl rfl (cF rfl rfl rfl ω'107 (zs:=[.int .i64 0,.int .i64 0,.int .i64 0]) rfl ?_))))
   intro b5
   refine qV (kR (j:=0) rfl rfl rfl rfl ζ'107 (us:=[_,_,_]) rfl rfl rfl Tk Az (by first | decide | (simp;done) | omega) ?_)
   simp only [setL,List.set]
   refine qV (qR rfl rfl rfl rfl (qS (qW [0,3,5] (e':=[(0,_),(3,_),(5,_)]) rfl ?_)))
   refine qQ ?_
   refine sY (b5) (by trivial) (by exact ⟨rfl,rfl,rfl,trivial⟩) (by (try simp only [List.cons_append,List.nil_append]);(repeat ((with_reducible apply Z2);focus (first | (with_reducible (repeat (first | exact Z0 | apply Z1));done) | (repeat (first | exact Z0 | apply Z1)))));(repeat (first | exact Z3 | exact Takes.self | refine sS ?_)))
  refine cF rfl rfl rfl ω'107 (zs:=[.int .i64 0,.int .i64 0,.int .i64 0]) rfl ?_
  intro b5
  refine qH (q:=0) rfl rfl rfl α'76 Tk Az (by rfl) ?_
  refine qH (q:=1) rfl rfl rfl α'3 Tk Az (by rfl) ?_
  refine qV ?_
  have sp_3:=Fe.stand_spec pa pc cb x.v.ck ((t:Nat):Int)
  refine qM rfl rfl rfl rfl rfl rfl κ'45 (sp_3) Ts ?_
  rintro ⟨⟩ -
  try simp only [List.cons_append,List.nil_append]
  refine qV (qK rfl rfl rfl rfl (kW rfl rfl rfl rfl rfl (kW rfl rfl rfl rfl rfl (kR (j:=0) rfl rfl rfl rfl ζ'107 (us:=[_,_,_]) rfl rfl rfl Tk Az (by first | decide | (simp;done) | omega) ?_))))
  simp only [setL,List.set]
  refine qV (qR rfl rfl rfl rfl (qS (qW [0,3,5] (e':=[(0,_),(3,_),(5,_)]) rfl ?_)))
  refine qQ ?_
  refine sY (b5) (by trivial) (by exact ⟨rfl,rfl,rfl,trivial⟩) (by (try simp only [List.cons_append,List.nil_append]);(repeat ((with_reducible apply Z2);focus (first | (with_reducible (repeat (first | exact Z0 | apply Z1));done) | (repeat (first | exact Z0 | apply Z1)))));(repeat (first | exact Z3 | exact Takes.self | refine sS ?_)))
 rintro sb -
 try simp only [List.cons_append,List.nil_append]
 refine qG (s_rest_take (F:=F1) (T:=x.v.th) (S:=[]) ((t:Nat):Int) Tk (by simp) hth fun tv htF=>?_)
 refine s_vec Tk fun tb ta tc hta=>?_
 subst hta
 refine qC (.q 0 (.q 1 (.q 2 (.q 3 ((.l 4 [] (.q 5 (.done)))))))) Kr ?_
 refine qK rfl rfl rfl rfl (qX rfl rfl rfl rfl (qL (k:=0) rfl rfl rfl rfl υ'81 rfl ζ'76 rfl ?_))
 refine qP (j:=0) rfl rfl rfl rfl α'76 Tk Az (by rfl) ?_
 have sp_4:=Fe.len_spec pa pc cb x.v.ck
 refine qM rfl rfl rfl rfl rfl rfl κ'46 (sp_4) Ts ?_
 rintro ⟨⟩ -
 try simp only [List.cons_append,List.nil_append]
 refine qV (qR rfl rfl rfl rfl (qS (qW [0,3,5,7] (e':=[(0,_),(3,_),(5,_),(7,_)]) rfl ?_)))
 refine qQ (qG ?_)
 refine c_seqJ (α:=Unit) (fun (z_:Unit)=>True) (fun (z_:Unit)=>[(50,.bool false)]) (fun (z_:Unit)=>[]) [0,3,5,7] (er:=[(0,_),(3,_),(5,_),(7,_)]) rfl [] Ts ?_ ?_
 ·
  refine kX rfl (.q 0 (.q 1 (.q 2 (.q 3 (.q 4 ((.l 5 [] (.q 6 (.q 7 (.q 8 (.q 9 (.q 10 (.q 11 (.q 12 (.q 13 (.q 14 (.q 15 (.q 16 ((.l 17 [] (.q 18 (.q 19 (.q 20 (.q 21 ((.l 22 [] (.q 23 (.q 24 (.done))))))))))))))))))))))))))))) Kr ?_
  refine qK rfl rfl rfl rfl (qX rfl rfl rfl rfl (qL (k:=0) rfl rfl rfl rfl υ'81 rfl ζ'76 rfl ?_))
  refine qP (j:=0) rfl rfl rfl rfl α'76 Tk Az (by rfl) ?_
  refine kN rfl rfl rfl rfl α'36 ζ'36 Tk 0 (us:=[_,_,_]) Az rfl rfl ?_
  have sp_5:=Fe.can_spec pa pc cb x.v.ck hx.v.ck k ((t:Nat):Int) o
  refine qM rfl rfl rfl rfl rfl rfl κ'47 (sp_5) Ts ?_
  rintro ⟨⟩ -
  try simp only [List.cons_append,List.nil_append]
  refine qV (rL rfl rfl rfl rfl ?_)
  refine qK rfl rfl rfl rfl ?_
  refine s_bool_np 33 rfl (fun hg=>by exfalso;exact hg hc) (fun hg=>?_)
  refine qK rfl rfl rfl rfl (qX rfl rfl rfl rfl (qL (k:=2) rfl rfl rfl rfl υ'81 rfl ζ'77 rfl ?_))
  refine qP (j:=2) rfl rfl rfl rfl α'77 Tk Az (by rfl) ?_
  refine qL (k:=1) rfl rfl rfl rfl υ'36 rfl ζ'3 rfl ?_
  refine qP (j:=1) rfl rfl rfl rfl α'3 Tk Az (by rfl) ?_
  refine sL (ek:=ekZ) (ev1:=evA) (F:=F1) (m:=m1) (k:=((t:Nat):Int)) none rfl rfl rfl rfl rfl υ'77 (cW υ'3) ω'86 Tk ?_
  refine kH 40 rfl (v':=.pointer (some ⟨tb,0,none⟩)) (by rw [htF];rfl) ?_
  refine qL (k:=1) rfl rfl rfl rfl υ'36 rfl ζ'3 rfl ?_
  refine qP (j:=1) rfl rfl rfl rfl α'3 Tk Az (by rfl) ?_
  have sp_6:=Vc.get_spec tb l ta l.length tc Ln t
  refine qM rfl rfl rfl rfl rfl rfl κ'48 (sp_6) Ts ?_
  rintro ⟨⟩ -
  try simp only [List.cons_append,List.nil_append]
  refine qV (qN rfl rfl rfl rfl rfl (cS _ _ _ _) ?_)
  refine qK rfl rfl rfl rfl ?_
  refine cL 45 rfl (fun hmx=>?_) (fun hmx=>?_)
  ·
   refine qL (k:=0) rfl rfl rfl rfl υ'36 rfl ζ'34 rfl ?_
   refine qP (j:=0) rfl rfl rfl rfl α'34 Tk Az (by rfl) ?_
   have sp_7:=releases_spec k
   refine qM rfl rfl rfl rfl rfl rfl Try.call49 (sp_7) Ts ?_
   rintro ⟨⟩ -
   try simp only [List.cons_append,List.nil_append]
   refine qV (kZ rfl rfl rfl rfl rfl (kC rfl rfl rfl rfl rfl (qS (qW [0,3,5,7,50] (e':=[(0,_),(3,_),(5,_),(7,_),(50,_)]) rfl ?_))))
   refine qQ (kH 50 rfl (v':=.bool false) (by rw [decide_eq_false (hvm.1 hv hmx)]) ?_)
   refine sY (()) (by trivial) (by exact ⟨rfl,rfl,rfl,rfl,rfl,trivial⟩) (by (try simp only [List.cons_append,List.nil_append]);(repeat ((with_reducible apply Z2);focus (first | (with_reducible (repeat (first | exact Z0 | apply Z1));done) | (repeat (first | exact Z0 | apply Z1)))));(repeat (first | exact Z3 | exact Takes.self | refine sS ?_)))
  refine qY rfl rfl rfl rfl (qY rfl rfl rfl rfl (sZ rfl rfl rfl rfl ?_))
  refine kC rfl rfl rfl rfl rfl (kC rfl rfl rfl rfl rfl (qS (qW [0,3,5,7,50] (e':=[(0,_),(3,_),(5,_),(7,_),(50,_)]) rfl ?_)))
  refine qQ ?_
  refine sY (()) (by trivial) (by exact ⟨rfl,rfl,rfl,rfl,rfl,trivial⟩) (by (try simp only [List.cons_append,List.nil_append]);(repeat ((with_reducible apply Z2);focus (first | (with_reducible (repeat (first | exact Z0 | apply Z1));done) | (repeat (first | exact Z0 | apply Z1)))));(repeat (first | exact Z3 | exact Takes.self | refine sS ?_)))
 rintro ⟨⟩ -
 try simp only [List.cons_append,List.nil_append]
 refine kB rfl ?_
 refine qF (qQ (qG (kX rfl (.q 0 (.q 1 (.q 2 (.q 3 (.q 4 ((.l 5 [] (.done)))))))) Kr ?_)))
 refine qK rfl rfl rfl rfl (qX rfl rfl rfl rfl (qL (k:=0) rfl rfl rfl rfl υ'81 rfl ζ'76 rfl ?_))
 refine qP (j:=0) rfl rfl rfl rfl α'76 Tk Az (by rfl) ?_
 refine kN rfl rfl rfl rfl α'36 ζ'36 Tk 0 (us:=[_,_,_]) Az rfl rfl ?_
 have sp_8:=Fe.next_spec pa pc cb x.v.ck hx.v.ck Om pl (hpl) k ((t:Nat):Int) o
 refine qM rfl rfl rfl rfl rfl rfl Try.call50 (sp_8) Ts ?_
 rintro ⟨⟩ -
 try simp only [List.cons_append,List.nil_append]
 refine qV (qS (qW [0,3,5,7] (e':=[(0,_),(3,_),(5,_),(7,_)]) rfl ?_))
 refine qQ (qG (kX rfl (.q 0 (.q 1 (.q 2 (.q 3 (.q 4 (.q 5 (.q 6 (.q 7 (.done))))))))) Kr ?_))
 refine qK rfl rfl rfl rfl (qX rfl rfl rfl rfl (qL (k:=2) rfl rfl rfl rfl υ'81 rfl ζ'77 rfl ?_))
 refine qP (j:=2) rfl rfl rfl rfl α'77 Tk Az (by rfl) ?_
 refine qL (k:=1) rfl rfl rfl rfl υ'36 rfl ζ'3 rfl ?_
 refine qP (j:=1) rfl rfl rfl rfl α'3 Tk Az (by rfl) ?_
 refine sL (ek:=ekZ) (ev1:=evA) (F:=F1) (m:=m1) (k:=((t:Nat):Int)) none rfl rfl rfl rfl rfl υ'77 (cW υ'3) ω'86 Tk ?_
 refine kH 63 rfl (v':=.pointer (some ⟨tb,0,none⟩)) (by rw [htF];rfl) ?_
 refine qR rfl rfl rfl rfl (qS (qW [0,3,5,7,8] (e':=[(0,_),(3,_),(5,_),(7,_),(8,_)]) rfl ?_))
 refine qQ (qG (qG (qC (.q 0 (.q 1 (.done))) Kr ?_)))
 refine qL (k:=0) rfl rfl rfl rfl υ'36 rfl ζ'34 rfl ?_
 refine qP (j:=0) rfl rfl rfl rfl α'34 Tk Az (by rfl) ?_
 refine qS (qQ (kS (qG (qC (.q 0 (.q 1 (.done))) Kr ?_))))
 refine qN rfl rfl rfl rfl rfl (cS _ _ _ _) ?_
 refine qR rfl rfl rfl rfl (qS (qQ ?_))
 refine qB rfl (fun k1=>?_) (fun k1=>?_)
 ·
  obtain ⟨p0,p1⟩:=acc_obj hc Om
  obtain ⟨w,hw⟩:=cP (l:=x.vs) (i:=o.toNat) Om
  obtain ⟨hw0,hr0,hws,hf1,hf2⟩:=hx.vs w (List.mem_of_getElem? hw)
  obtain ⟨ww,wr,ws,wf⟩:=w
  refine s_restL_take (res:=fvarA) (V:=V) (Y:=x.vs) (S:=[]) o.toNat Tk (by simp) hw fun v_ hv_=>?_
  obtain ⟨w0_,r0,so,f0⟩:=v_
  refine s_fvar Tk fun he1 he2 he3=>?_
  simp only at he1 he2 he3 hw0 hr0 hws hf1 hf2
  subst he1 he2 he3
  refine kX rfl (.q 0 (.q 1 (.q 2 (.q 3 (.q 4 (.q 5 (.q 6 (.q 7 (.q 8 (.q 9 (.q 10 ((.l 11 [] (.done)))))))))))))) Kr ?_
  refine qK rfl rfl rfl rfl (qL (k:=1) rfl rfl rfl rfl υ'36 rfl ζ'3 rfl ?_)
  refine qP (j:=1) rfl rfl rfl rfl α'3 Tk Az (by rfl) ?_
  refine qK rfl rfl rfl rfl (qX rfl rfl rfl rfl (qL (k:=6) rfl rfl rfl rfl υ'81 rfl ζ'79 rfl ?_))
  refine qP (j:=6) rfl rfl rfl rfl α'79 Tk Az (by rfl) ?_
  refine qL (k:=2) rfl rfl rfl rfl υ'36 rfl ζ'3 rfl ?_
  refine qP (j:=2) rfl rfl rfl rfl α'3 Tk Az (by rfl) ?_
  refine kY (sz:=3) (k:=o.toNat) (enc:=encF) (xs:=V) rfl rfl rfl rfl rfl υ'79 ζ'88 hv_ Om Om Tk ?_
  intro ib81 io81 ha81 hl81 hc81
  refine qK rfl rfl rfl rfl ?_
  have sp_9:=Fa.read_spec b m1 tb tc t ib81 io81 o.toNat vc (.pointer (some ⟨cb,0,none⟩)) (.slice po x.v.ck.pa.length poc) (.map (some m2)) (.map (some m3)) (.map (some m4)) (.slice va x.vs.length vc) x.cost x.v.ck.n F1 ta va l V w0_ r0 so f0 htF htn hlc hl1 Om hw0 hr0 hv_ ha81 ws hws
  refine qM rfl rfl rfl rfl rfl rfl Try.call51 (sp_9) Ts ?_
  rintro rp -
  try simp only [List.cons_append,List.nil_append]
  try simp only [List.cons_append,List.nil_append]
  refine qV (qS (s_fvarF ((rdV t l x.v.ck.n (w0_,r0,ws,f0)).1.1,(rdV t l x.v.ck.n (w0_,r0,ws,f0)).1.2.1,rp,(rdV t l x.v.ck.n (w0_,r0,ws,f0)).1.2.2.2) (rdV t l x.v.ck.n (w0_,r0,ws,f0)).1 Td rfl rfl rfl ?_))
  refine s_restL_put (res:=fvarA) (V:=V) (Y:=x.vs) (S:=[]) o.toNat ((rdV t l x.v.ck.n (w0_,r0,ws,f0)).1.1,(rdV t l x.v.ck.n (w0_,r0,ws,f0)).1.2.1,rp,(rdV t l x.v.ck.n (w0_,r0,ws,f0)).1.2.2.2) (rdV t l x.v.ck.n (w0_,r0,ws,f0)).1 Ts (by simp) (List.getElem?_eq_some_iff.1 hv_).1 Om ?_
  refine qW [] (e':=[]) rfl ?_
  refine kK (qQ (qG (qC (.q 0 (.done)) Kr ?_)))
  refine qR rfl rfl rfl rfl (qS (qQ (qJ (s_vecF tb ta tc l Ts ?_))))
  refine sG (F:=F1) (T:=x.v.th) (S:=[]) ((t:Nat):Int) F1 x.v.th Ts (by simp) htF (fun _ _ _=>rfl) hth (fun _ _ _=>rfl) ?_
  refine df_fold (b:=b) (feF x k ((t:Nat):Int) o) (pa:=pa) (pc:=pc) (po:=po) (poc:=poc) (cb:=cb) (m1:=m1) (m2:=m2) (m3:=m3) (m4:=m4) (va:=va) (vc:=vc) (F1:=F1) (F2:=F2) (F3:=F3) (F4:=F4) (V:=(V.set o.toNat ((rdV t l x.v.ck.n (w0_,r0,ws,f0)).1.1,(rdV t l x.v.ck.n (w0_,r0,ws,f0)).1.2.1,rp,(rdV t l x.v.ck.n (w0_,r0,ws,f0)).1.2.2.2))) Ts (by rw [fe_rd hv k1 hw hth,Int.toNat_natCast,vn0 Om Om Om Om Om Om Om Om]) (by rw [nx_pa]) (by rw [List.length_set]) (by first | exact (by simp [hV]) | simp) ?_
  refine cR rfl rfl (()) (by rfl) (by trivial) ?_
  exact Tf
 refine qG (qC (.q 0 (.q 1 (.done))) Kr ?_)
 refine qN rfl rfl rfl rfl rfl (cS _ _ _ _) ?_
 refine qR rfl rfl rfl rfl (qS (qW [0,3,5,7,8,65,84] (e':=[(0,_),(3,_),(5,_),(7,_),(8,_),(65,_),(84,_)]) rfl ?_))
 refine qQ ?_
 refine qB rfl (fun k2=>?_) (fun k2=>?_)
 ·
  obtain ⟨p0,p1⟩:=acc_obj hc Om
  obtain ⟨w,hw⟩:=cP (l:=x.vs) (i:=o.toNat) Om
  obtain ⟨hw0,hr0,hws,hf1,hf2⟩:=hx.vs w (List.mem_of_getElem? hw)
  obtain ⟨ww,wr,ws,wf⟩:=w
  refine s_restL_take (res:=fvarA) (V:=V) (Y:=x.vs) (S:=[]) o.toNat Tk (by simp) hw fun v_ hv_=>?_
  obtain ⟨w0_,r0,so,f0⟩:=v_
  refine s_fvar Tk fun he1 he2 he3=>?_
  simp only at he1 he2 he3 hw0 hr0 hws hf1 hf2
  subst he1 he2 he3
  refine kX rfl (.q 0 (.q 1 (.q 2 (.q 3 (.q 4 (.q 5 (.q 6 (.q 7 (.q 8 (.q 9 (.q 10 ((.l 11 [] (.done)))))))))))))) Kr ?_
  refine qK rfl rfl rfl rfl (qL (k:=1) rfl rfl rfl rfl υ'36 rfl ζ'3 rfl ?_)
  refine qP (j:=1) rfl rfl rfl rfl α'3 Tk Az (by rfl) ?_
  refine qK rfl rfl rfl rfl (qX rfl rfl rfl rfl (qL (k:=6) rfl rfl rfl rfl υ'81 rfl ζ'79 rfl ?_))
  refine qP (j:=6) rfl rfl rfl rfl α'79 Tk Az (by rfl) ?_
  refine qL (k:=2) rfl rfl rfl rfl υ'36 rfl ζ'3 rfl ?_
  refine qP (j:=2) rfl rfl rfl rfl α'3 Tk Az (by rfl) ?_
  refine kY (sz:=3) (k:=o.toNat) (enc:=encF) (xs:=V) rfl rfl rfl rfl rfl υ'79 ζ'88 hv_ Om Om Tk ?_
  intro ib95 io95 ha95 hl95 hc95
  refine qK rfl rfl rfl rfl ?_
  have sp_10:=Fa.write_spec b m1 tb tc t ib95 io95 o.toNat vc (.pointer (some ⟨cb,0,none⟩)) (.slice po x.v.ck.pa.length poc) (.map (some m2)) (.map (some m3)) (.map (some m4)) (.slice va x.vs.length vc) x.cost x.v.ck.n F1 ta va l V w0_ r0 so f0 htF htn hlc hl1 Om hw0 hr0 hv_ ha95 ws hws
  refine qM rfl rfl rfl rfl rfl rfl Try.call52 (sp_10) Ts ?_
  rintro rp -
  try simp only [List.cons_append,List.nil_append]
  try simp only [List.cons_append,List.nil_append]
  refine qV (qS (s_fvarF ((wrV t l x.v.ck.n (w0_,r0,ws,f0)).1.1,(wrV t l x.v.ck.n (w0_,r0,ws,f0)).1.2.1,rp,(wrV t l x.v.ck.n (w0_,r0,ws,f0)).1.2.2.2) (wrV t l x.v.ck.n (w0_,r0,ws,f0)).1 Td rfl rfl rfl ?_))
  refine s_restL_put (res:=fvarA) (V:=V) (Y:=x.vs) (S:=[]) o.toNat ((wrV t l x.v.ck.n (w0_,r0,ws,f0)).1.1,(wrV t l x.v.ck.n (w0_,r0,ws,f0)).1.2.1,rp,(wrV t l x.v.ck.n (w0_,r0,ws,f0)).1.2.2.2) (wrV t l x.v.ck.n (w0_,r0,ws,f0)).1 Ts (by simp) (List.getElem?_eq_some_iff.1 hv_).1 Om ?_
  refine qW [] (e':=[]) rfl ?_
  refine kK (qQ (qG (qC (.q 0 (.done)) Kr ?_)))
  refine qR rfl rfl rfl rfl (qS (qQ (qJ (s_vecF tb ta tc l Ts ?_))))
  refine sG (F:=F1) (T:=x.v.th) (S:=[]) ((t:Nat):Int) F1 x.v.th Ts (by simp) htF (fun _ _ _=>rfl) hth (fun _ _ _=>rfl) ?_
  refine df_fold (b:=b) (feF x k ((t:Nat):Int) o) (pa:=pa) (pc:=pc) (po:=po) (poc:=poc) (cb:=cb) (m1:=m1) (m2:=m2) (m3:=m3) (m4:=m4) (va:=va) (vc:=vc) (F1:=F1) (F2:=F2) (F3:=F3) (F4:=F4) (V:=(V.set o.toNat ((wrV t l x.v.ck.n (w0_,r0,ws,f0)).1.1,(wrV t l x.v.ck.n (w0_,r0,ws,f0)).1.2.1,rp,(wrV t l x.v.ck.n (w0_,r0,ws,f0)).1.2.2.2))) Ts (by rw [fe_wr hv k2 hw hth,Int.toNat_natCast,vn0 Om Om Om Om Om Om Om Om]) (by rw [nx_pa]) (by rw [List.length_set]) (by first | exact (by simp [hV]) | simp) ?_
  refine cR rfl rfl (()) (by rfl) (by trivial) ?_
  exact Tf
 refine qG (qC (.q 0 (.q 1 (.done))) Kr ?_)
 refine qN rfl rfl rfl rfl rfl (cS _ _ _ _) ?_
 refine qR rfl rfl rfl rfl (qS (qQ ?_))
 refine qB rfl (fun k5=>?_) (fun k5=>?_)
 ·
  refine s_rest_opt (F:=F2) (T:=x.v.lk) (S:=[]) o Tk (by simp) fun hso=>?_
  refine kX rfl (.q 0 (.q 1 (.q 2 (.q 3 (.q 4 (.q 5 (.q 6 (.q 7 ((.l 8 [] (.done))))))))))) Kr ?_
  refine qK rfl rfl rfl rfl (qK rfl rfl rfl rfl (qX rfl rfl rfl rfl (qL (k:=3) rfl rfl rfl rfl υ'81 rfl ζ'77 rfl ?_)))
  refine qP (j:=3) rfl rfl rfl rfl α'77 Tk Az (by rfl) ?_
  refine qL (k:=2) rfl rfl rfl rfl υ'36 rfl ζ'3 rfl ?_
  refine qP (j:=2) rfl rfl rfl rfl α'3 Tk Az (by rfl) ?_
  refine sL (ek:=ekZ) (ev1:=evA) (F:=F2) (m:=m2) (k:=o) none rfl rfl rfl rfl rfl υ'77 (cW υ'3) ω'86 Tk ?_
  have sp_11:=Fa.join_spec ((F2 o).getD none) (x.v.lk o) (hx.v.lkc _) tb l ta tc hlc
  refine qM rfl rfl rfl rfl rfl rfl Try.call53 (sp_11) Ts ?_
  rintro ⟨ja,jc⟩ -
  try simp only [List.cons_append,List.nil_append]
  refine qV (qS (s_opt_back (F:=F2) (T:=x.v.lk) (S:=[]) o Ts (by simp) hso ?_))
  refine s_vecF tb ja jc (mgF (x.v.lk o) l) Ts ?_
  refine sG (F:=F1) (T:=x.v.th) (S:=[]) ((t:Nat):Int) F1 (upd x.v.th ((t:Nat):Int) (some (mgF (x.v.lk o) l))) Ts (by simp) htF (fun _ _ _=>rfl) sQ (fun q h _=>sB h) ?_
  refine qW [] (e':=[]) rfl ?_
  refine kK (qQ (qG (qC (.q 0 (.done)) Kr ?_)))
  refine qR rfl rfl rfl rfl (qS (qQ (qJ (df_fold (b:=b) (feF x k ((t:Nat):Int) o) (pa:=pa) (pc:=pc) (po:=po) (poc:=poc) (cb:=cb) (m1:=m1) (m2:=m2) (m3:=m3) (m4:=m4) (va:=va) (vc:=vc) (F1:=F1) (F2:=F2) (F3:=F3) (F4:=F4) (V:=V) Ts (by rw [fe_no hv Om Om,vn5 hth k5]) (by rw [nx_pa]) (by rfl) (by first | exact hV | simp) ?_))))
  refine cR rfl rfl (()) (by rfl) (by trivial) ?_
  exact Tf
 refine qG (qC (.q 0 (.q 1 (.done))) Kr ?_)
 refine qN rfl rfl rfl rfl rfl (cS _ _ _ _) ?_
 refine qR rfl rfl rfl rfl (qS (qW [0,3,5,8,65,109] (e':=[(0,_),(3,_),(5,_),(8,_),(65,_),(109,_)]) rfl ?_))
 refine qQ ?_
 refine qB rfl (fun k3=>?_) (fun k3=>?_)
 ·
  refine s_rest_opt (F:=F3) (T:=x.v.vo) (S:=[]) o Tk (by simp) fun hso=>?_
  refine kX rfl (.q 0 (.q 1 (.q 2 (.q 3 (.q 4 (.q 5 (.q 6 (.q 7 ((.l 8 [] (.done))))))))))) Kr ?_
  refine qK rfl rfl rfl rfl (qK rfl rfl rfl rfl (qX rfl rfl rfl rfl (qL (k:=4) rfl rfl rfl rfl υ'81 rfl ζ'77 rfl ?_)))
  refine qP (j:=4) rfl rfl rfl rfl α'77 Tk Az (by rfl) ?_
  refine qL (k:=2) rfl rfl rfl rfl υ'36 rfl ζ'3 rfl ?_
  refine qP (j:=2) rfl rfl rfl rfl α'3 Tk Az (by rfl) ?_
  refine sL (ek:=ekZ) (ev1:=evA) (F:=F3) (m:=m3) (k:=o) none rfl rfl rfl rfl rfl υ'77 (cW υ'3) ω'86 Tk ?_
  have sp_12:=Fa.join_spec ((F3 o).getD none) (x.v.vo o) (hx.v.voc _) tb l ta tc hlc
  refine qM rfl rfl rfl rfl rfl rfl Try.call53 (sp_12) Ts ?_
  rintro ⟨ja,jc⟩ -
  try simp only [List.cons_append,List.nil_append]
  refine qV (qS (s_opt_back (F:=F3) (T:=x.v.vo) (S:=[]) o Ts (by simp) hso ?_))
  refine s_vecF tb ja jc (mgF (x.v.vo o) l) Ts ?_
  refine sG (F:=F1) (T:=x.v.th) (S:=[]) ((t:Nat):Int) F1 (upd x.v.th ((t:Nat):Int) (some (mgF (x.v.vo o) l))) Ts (by simp) htF (fun _ _ _=>rfl) sQ (fun q h _=>sB h) ?_
  refine qW [] (e':=[]) rfl ?_
  refine kK (qQ (qG (qC (.q 0 (.done)) Kr ?_)))
  refine qR rfl rfl rfl rfl (qS (qQ (qJ (df_fold (b:=b) (feF x k ((t:Nat):Int) o) (pa:=pa) (pc:=pc) (po:=po) (poc:=poc) (cb:=cb) (m1:=m1) (m2:=m2) (m3:=m3) (m4:=m4) (va:=va) (vc:=vc) (F1:=F1) (F2:=F2) (F3:=F3) (F4:=F4) (V:=V) Ts (by rw [fe_no hv Om Om,vn3 hth k3]) (by rw [nx_pa]) (by rfl) (by first | exact hV | simp) ?_))))
  refine cR rfl rfl (()) (by rfl) (by trivial) ?_
  exact Tf
 refine qG (qC (.q 0 (.q 1 (.done))) Kr ?_)
 refine qN rfl rfl rfl rfl rfl (cS _ _ _ _) ?_
 refine qR rfl rfl rfl rfl (qS (qQ ?_))
 refine qB rfl (fun k8=>?_) (fun k8=>?_)
 ·
  have hne:o≠((t:Nat):Int):=by
    intro e;rw [e] at hc
    exact join_ne hc k8
  refine s_rest_opt (F:=F1) (T:=x.v.th) (S:=[((t:Nat):Int)]) o Tk (by simpa using hne) fun hso=>?_
  refine kX rfl (.q 0 (.q 1 (.q 2 (.q 3 (.q 4 (.q 5 (.q 6 (.q 7 ((.l 8 [] (.done))))))))))) Kr ?_
  refine qK rfl rfl rfl rfl (qK rfl rfl rfl rfl (qX rfl rfl rfl rfl (qL (k:=2) rfl rfl rfl rfl υ'81 rfl ζ'77 rfl ?_)))
  refine qP (j:=2) rfl rfl rfl rfl α'77 Tk Az (by rfl) ?_
  refine qL (k:=2) rfl rfl rfl rfl υ'36 rfl ζ'3 rfl ?_
  refine qP (j:=2) rfl rfl rfl rfl α'3 Tk Az (by rfl) ?_
  refine sL (ek:=ekZ) (ev1:=evA) (F:=F1) (m:=m1) (k:=o) none rfl rfl rfl rfl rfl υ'77 (cW υ'3) ω'86 Tk ?_
  have sp_13:=Fa.join_spec ((F1 o).getD none) (x.v.th o) (hx.v.thc _) tb l ta tc hlc
  refine qM rfl rfl rfl rfl rfl rfl Try.call53 (sp_13) Ts ?_
  rintro ⟨ja,jc⟩ -
  try simp only [List.cons_append,List.nil_append]
  refine qV (qS (s_opt_back (F:=F1) (T:=x.v.th) (S:=[((t:Nat):Int)]) o Ts (by simpa using hne) hso ?_))
  refine s_vecF tb ja jc (mgF (x.v.th o) l) Ts ?_
  refine sG (F:=F1) (T:=x.v.th) (S:=[]) ((t:Nat):Int) F1 (upd x.v.th ((t:Nat):Int) (some (mgF (x.v.th o) l))) Ts (by simp) htF (fun _ _ _=>rfl) sQ (fun q h _=>sB h) ?_
  refine qW [] (e':=[]) rfl ?_
  refine kK (qQ (qG (qC (.q 0 (.done)) Kr ?_)))
  refine qR rfl rfl rfl rfl (qS (qQ (qJ (df_fold (b:=b) (feF x k ((t:Nat):Int) o) (pa:=pa) (pc:=pc) (po:=po) (poc:=poc) (cb:=cb) (m1:=m1) (m2:=m2) (m3:=m3) (m4:=m4) (va:=va) (vc:=vc) (F1:=F1) (F2:=F2) (F3:=F3) (F4:=F4) (V:=V) Ts (by rw [fe_no hv Om Om,vn8 hth k8]) (by rw [nx_pa]) (by rfl) (by first | exact hV | simp) ?_))))
  refine cR rfl rfl (()) (by rfl) (by trivial) ?_
  exact Tf
 refine qG (qC (.q 0 (.q 1 (.done))) Kr ?_)
 refine qN rfl rfl rfl rfl rfl (cS _ _ _ _) ?_
 refine qR rfl rfl rfl rfl (qS (qW [0,3,5,8,131] (e':=[(0,_),(3,_),(5,_),(8,_),(131,_)]) rfl ?_))
 refine qQ ?_
 refine qB rfl (fun k10=>?_) (fun k10=>?_)
 ·
  obtain ⟨o5,o7,o9,o10,o11⟩:=can_obj hx.v.ck hc
  have hsh:=hx.v.ck.sh
  obtain ⟨q1,q2,q3⟩:=o10 k10
  obtain ⟨p,hrd,hp1⟩:=rd_some hx.v q1 q3
  have hpc:=hx.v.rdc _ _ hrd
  have hps:=hx.v.rds _ _ hrd
  have hrf:rdF x.v (o,(stF x.v.ck ((t:Nat):Int)).2.2)=p:=by rw [rdF,hrd];rfl
  have hrd2:x.v.rd ((stF x.v.ck ((t:Nat):Int)).2.1,(stF x.v.ck ((t:Nat):Int)).2.2)=some p:=by rw [← q3];exact hrd
  refine qC (.q 0 (.q 1 (.q 2 (.q 3 (.q 4 (.q 5 (.q 6 ((.l 7 [] (.done)))))))))) Kr ?_
  refine qK rfl rfl rfl rfl (qK rfl rfl rfl rfl (qL (k:=1) rfl rfl rfl rfl υ'107 rfl ζ'3 rfl ?_))
  refine qP (j:=1) rfl rfl rfl rfl α'3 Tk Az (by rfl) ?_
  refine qL (k:=2) rfl rfl rfl rfl υ'107 rfl ζ'3 rfl ?_
  refine qP (j:=2) rfl rfl rfl rfl α'3 Tk Az (by rfl) ?_
  refine cX rfl rfl rfl rfl (vs:=[_,_]) (kM υ'125 ω'125 (ps:=[(0,1),(1,1)]) ⟨rfl,ζ'3,rfl,ζ'3,trivial⟩ rfl) ?_
  have sp_14:=Fa.leave_spec b m4 (.pointer (some ⟨cb,0,none⟩)) (.slice po x.v.ck.pa.length poc) (.map (some m1)) (.map (some m2)) (.map (some m3)) (.slice va x.vs.length vc) (.int .i64 x.cost) F4 x.v.rd tb l ta tc hlc (stF x.v.ck ((t:Nat):Int)).2.1 (stF x.v.ck ((t:Nat):Int)).2.2 p hrd2 hpc Om
  refine qM rfl rfl rfl rfl rfl rfl Try.call54 (sp_14) Ts ?_
  rintro ⟨G4,ja,jc⟩ -
  try simp only [List.cons_append,List.nil_append]
  rw [← q3]
  try simp only [List.cons_append,List.nil_append]
  refine qV (qS (s_vecF tb ja jc (jn l p.1) Ts ?_))
  refine sG (F:=F1) (T:=x.v.th) (S:=[]) ((t:Nat):Int) F1 (upd x.v.th ((t:Nat):Int) (some (jn l p.1))) Ts (by simp) htF (fun _ _ _=>rfl) sQ (fun q h _=>sB h) ?_
  refine qW [] (e':=[]) rfl ?_
  refine kK (qQ (qG (qC (.q 0 (.done)) Kr ?_)))
  refine qR rfl rfl rfl rfl (qS (qQ (qJ (df_fold (b:=b) (feF x k ((t:Nat):Int) o) (pa:=pa) (pc:=pc) (po:=po) (poc:=poc) (cb:=cb) (m1:=m1) (m2:=m2) (m3:=m3) (m4:=m4) (va:=va) (vc:=vc) (F1:=F1) (F2:=F2) (F3:=F3) (F4:=G4) (V:=V) Ts (by rw [fe_no hv Om Om,vn10 hth k10];simp only [dpF,thF_eq hth,hrf]) (by rw [nx_pa]) (by rfl) (by first | exact hV | simp) ?_))))
  refine cR rfl rfl (()) (by rfl) (by trivial) ?_
  exact Tf
 refine qC (.q 0 (.q 1 (.q 2 ((.l 3 [] (.done)))))) Kr ?_
 refine qK rfl rfl rfl rfl (kN rfl rfl rfl rfl α'36 ζ'36 Tk 0 (us:=[_,_,_]) Az rfl rfl ?_)
 refine qK rfl rfl rfl rfl ?_
 rcases (show k=7∨k=6∨(k=4∧x.v.vo o=none)∨(k=4∧∃ q,x.v.vo o=some q)∨(k=9∧x.v.rd (o,(opF x.v.ck o).1)=none)∨(k=9∧∃ q,x.v.rd (o,(opF x.v.ck o).1)=some q)∨(k≠7∧k≠6∧k≠4∧k≠9) by
     cases x.v.vo o <;> cases x.v.rd (o,(opF x.v.ck o).1) <;> simp <;> omega) with k7 | k6 | ⟨k4,hq⟩ | ⟨k4,q,hq⟩ | ⟨k9,hq⟩ | ⟨k9,q,hq⟩ | ⟨h7,h6,h4,h9⟩
 ·
  obtain ⟨o5,o7,o9,o10,o11⟩:=can_obj hx.v.ck hc
  have hsh:=hx.v.ck.sh
  have hlt:l.getD t 0 < maxC:=by
    have h9:=hv.2 (by unfold relK;omega)
    rw [thF_eq hth,Int.toNat_natCast] at h9;exact h9
  obtain ⟨p0,p1,p2⟩:=o7 k7
  have htl:=hx.v.ck.tl
  have hst1:=hsh.th
  have hot:o≠((t:Nat):Int):=by intro e;rw [e] at p2;exact can_th hc p2
  have sp_15:=Fa.rel_fork b (.pointer (some ⟨cb,0,none⟩)) (.slice po x.v.ck.pa.length poc) (.map (some m2)) (.map (some m3)) (.map (some m4)) (.slice va x.vs.length vc) (.int .i64 x.cost) tb l ta tc hlc k t o htn hlt m1 F1 x.v.th k7 Om hot
  refine qM rfl rfl rfl rfl rfl rfl κ'55 (sp_15) Ts ?_
  rintro ⟨ia,ic,G1⟩ hG1
  try simp only [List.cons_append,List.nil_append]
  try simp only [List.cons_append,List.nil_append]
  refine qV (s_vecF tb ia ic (icL l t) Ts ?_)
  refine sG (F:=G1) (T:=(upd x.v.th o (some (stL l o.toNat 1)))) (S:=[]) ((t:Nat):Int) G1 (upd (upd x.v.th o (some (stL l o.toNat 1))) ((t:Nat):Int) (some (icL l t))) Ts (by simp) (hG1.trans htF) (fun _ _ _=>rfl) sQ (fun q h _=>sB h) ?_
  refine qS (qW [] (e':=[]) rfl ?_)
  refine kK (qQ (qG (qC (.q 0 (.done)) Kr ?_)))
  refine qR rfl rfl rfl rfl (qS (qQ (qJ (df_fold (b:=b) (feF x k ((t:Nat):Int) o) (pa:=pa) (pc:=pc) (po:=po) (poc:=poc) (cb:=cb) (m1:=m1) (m2:=m2) (m3:=m3) (m4:=m4) (va:=va) (vc:=vc) (F1:=G1) (F2:=F2) (F3:=F3) (F4:=F4) (V:=V) Ts (by rw [fe_no hv Om Om,vn7 hth k7,Int.toNat_natCast]) (by rw [nx_pa]) (by rfl) (by first | exact hV | simp) ?_))))
  refine cR rfl rfl (()) (by rfl) (by trivial) ?_
  exact Tf
 ·
  have hlt:l.getD t 0 < maxC:=by
    have h9:=hv.2 (by unfold relK;omega)
    rw [thF_eq hth,Int.toNat_natCast] at h9;exact h9
  have sp_16:=Fa.rel_unlock b (.pointer (some ⟨cb,0,none⟩)) (.slice po x.v.ck.pa.length poc) (.map (some m1)) (.map (some m3)) (.map (some m4)) (.slice va x.vs.length vc) (.int .i64 x.cost) tb l ta tc hlc k t o htn hlt m2 F2 x.v.lk k6
  refine qM rfl rfl rfl rfl rfl rfl κ'55 (sp_16) Ts ?_
  rintro ⟨ia,ic,G2⟩ -
  try simp only [List.cons_append,List.nil_append]
  try simp only [List.cons_append,List.nil_append]
  refine qV (s_vecF tb ia ic (icL l t) Ts ?_)
  refine sG (F:=F1) (T:=x.v.th) (S:=[]) ((t:Nat):Int) F1 (upd x.v.th ((t:Nat):Int) (some (icL l t))) Ts (by simp) htF (fun _ _ _=>rfl) sQ (fun q h _=>sB h) ?_
  refine qS (qW [] (e':=[]) rfl ?_)
  refine kK (qQ (qG (qC (.q 0 (.done)) Kr ?_)))
  refine qR rfl rfl rfl rfl (qS (qQ (qJ (df_fold (b:=b) (feF x k ((t:Nat):Int) o) (pa:=pa) (pc:=pc) (po:=po) (poc:=poc) (cb:=cb) (m1:=m1) (m2:=m2) (m3:=m3) (m4:=m4) (va:=va) (vc:=vc) (F1:=F1) (F2:=G2) (F3:=F3) (F4:=F4) (V:=V) Ts (by rw [fe_no hv Om Om,vn6 hth k6,Int.toNat_natCast]) (by rw [nx_pa]) (by rfl) (by first | exact hV | simp) ?_))))
  refine cR rfl rfl (()) (by rfl) (by trivial) ?_
  exact Tf
 ·
  have hlt:l.getD t 0 < maxC:=by
    have h9:=hv.2 (by unfold relK;omega)
    rw [thF_eq hth,Int.toNat_natCast] at h9;exact h9
  have sp_17:=Fa.rel_set0 b (.pointer (some ⟨cb,0,none⟩)) (.slice po x.v.ck.pa.length poc) (.map (some m1)) (.map (some m2)) (.map (some m4)) (.slice va x.vs.length vc) (.int .i64 x.cost) tb l ta tc hlc k t o htn hlt m3 F3 x.v.vo k4 hq
  refine qM rfl rfl rfl rfl rfl rfl κ'55 (sp_17) Ts ?_
  rintro ⟨ia,ic,G3⟩ -
  try simp only [List.cons_append,List.nil_append]
  try simp only [List.cons_append,List.nil_append]
  refine qV (s_vecF tb ia ic (icL l t) Ts ?_)
  refine sG (F:=F1) (T:=x.v.th) (S:=[]) ((t:Nat):Int) F1 (upd x.v.th ((t:Nat):Int) (some (icL l t))) Ts (by simp) htF (fun _ _ _=>rfl) sQ (fun q h _=>sB h) ?_
  refine qS (qW [] (e':=[]) rfl ?_)
  refine kK (qQ (qG (qC (.q 0 (.done)) Kr ?_)))
  refine qR rfl rfl rfl rfl (qS (qQ (qJ (df_fold (b:=b) (feF x k ((t:Nat):Int) o) (pa:=pa) (pc:=pc) (po:=po) (poc:=poc) (cb:=cb) (m1:=m1) (m2:=m2) (m3:=m3) (m4:=m4) (va:=va) (vc:=vc) (F1:=F1) (F2:=F2) (F3:=G3) (F4:=F4) (V:=V) Ts (by rw [fe_no hv Om Om,vn4 hth k4,Int.toNat_natCast]) (by rw [nx_pa]) (by rfl) (by first | exact hV | simp) ?_))))
  refine cR rfl rfl (()) (by rfl) (by trivial) ?_
  exact Tf
 ·
  have hlt:l.getD t 0 < maxC:=by
    have h9:=hv.2 (by unfold relK;omega)
    rw [thF_eq hth,Int.toNat_natCast] at h9;exact h9
  have sp_18:=Fa.rel_set1 b (.pointer (some ⟨cb,0,none⟩)) (.slice po x.v.ck.pa.length poc) (.map (some m1)) (.map (some m2)) (.map (some m4)) (.slice va x.vs.length vc) (.int .i64 x.cost) tb l ta tc hlc k t o htn hlt m3 F3 x.v.vo k4 q hq (hx.v.voc _ _ hq)
  refine qM rfl rfl rfl rfl rfl rfl κ'55 (sp_18) Ts ?_
  rintro ⟨ia,ic,G3⟩ -
  try simp only [List.cons_append,List.nil_append]
  try simp only [List.cons_append,List.nil_append]
  refine qV (s_vecF tb ia ic (icL l t) Ts ?_)
  refine sG (F:=F1) (T:=x.v.th) (S:=[]) ((t:Nat):Int) F1 (upd x.v.th ((t:Nat):Int) (some (icL l t))) Ts (by simp) htF (fun _ _ _=>rfl) sQ (fun q h _=>sB h) ?_
  refine qS (qW [] (e':=[]) rfl ?_)
  refine kK (qQ (qG (qC (.q 0 (.done)) Kr ?_)))
  refine qR rfl rfl rfl rfl (qS (qQ (qJ (df_fold (b:=b) (feF x k ((t:Nat):Int) o) (pa:=pa) (pc:=pc) (po:=po) (poc:=poc) (cb:=cb) (m1:=m1) (m2:=m2) (m3:=m3) (m4:=m4) (va:=va) (vc:=vc) (F1:=F1) (F2:=F2) (F3:=G3) (F4:=F4) (V:=V) Ts (by rw [fe_no hv Om Om,vn4 hth k4,Int.toNat_natCast]) (by rw [nx_pa]) (by rfl) (by first | exact hV | simp) ?_))))
  refine cR rfl rfl (()) (by rfl) (by trivial) ?_
  exact Tf
 ·
  obtain ⟨o5,o7,o9,o10,o11⟩:=can_obj hx.v.ck hc
  have hsh:=hx.v.ck.sh
  have hlt:l.getD t 0 < maxC:=by
    have h9:=hv.2 (by unfold relK;omega)
    rw [thF_eq hth,Int.toNat_natCast] at h9;exact h9
  obtain ⟨p0,p1,p2,p3⟩:=o9 k9
  obtain ⟨pp,hpp⟩:=cP (l:=pl) (i:=o.toNat) (by rw [← hpl];omega)
  obtain ⟨s0,s1,s2⟩:=stF_nz (can_th hc)
  have hst2:stF (nxF x.v.ck k ((t:Nat):Int) o) ((t:Nat):Int)=(2,o,(opF x.v.ck o).1):=by
    rw [(nxF_k hc).2.2.2.1 k9,stF_set s0 s1 rfl,if_pos rfl]
  have sp_19:=Fa.rel_arr0 b (.map (some m1)) (.map (some m2)) (.map (some m3)) (.slice va x.vs.length vc) (.int .i64 x.cost) tb l ta tc hlc k t o htn hlt cb x.v.ck.pa.length pa pc (nxF x.v.ck k ((t:Nat):Int) o) (next_inv hx.v.ck _ _ _) pl (by rw [hpl]) po poc pp hpp p0 (by rw [← hpl,← hx.v.ck.bl];have:=hx.v.ck.sh.pl;rw [← hx.v.ck.bl] at this;exact this) (opF x.v.ck o).1 hst2 m4 F4 x.v.rd k9 hq
  refine qM rfl rfl rfl rfl rfl rfl κ'55 (sp_19) Ts ?_
  rintro ⟨ia,ic,G4⟩ -
  try simp only [List.cons_append,List.nil_append]
  try simp only [List.cons_append,List.nil_append]
  refine qV (s_vecF tb ia ic (icL l t) Ts ?_)
  refine sG (F:=F1) (T:=x.v.th) (S:=[]) ((t:Nat):Int) F1 (upd x.v.th ((t:Nat):Int) (some (icL l t))) Ts (by simp) htF (fun _ _ _=>rfl) sQ (fun q h _=>sB h) ?_
  refine qS (qW [] (e':=[]) rfl ?_)
  refine kK (qQ (qG (qC (.q 0 (.done)) Kr ?_)))
  refine qR rfl rfl rfl rfl (qS (qQ (qJ (df_fold (b:=b) (feF x k ((t:Nat):Int) o) (pa:=pa) (pc:=pc) (po:=po) (poc:=poc) (cb:=cb) (m1:=m1) (m2:=m2) (m3:=m3) (m4:=m4) (va:=va) (vc:=vc) (F1:=F1) (F2:=F2) (F3:=F3) (F4:=G4) (V:=V) Ts (by rw [fe_no hv Om Om,vn9 hth k9,Int.toNat_natCast,show x.v.ck.pa.getD o.toNat 0=pp from by rw [hpl];exact getD_some hpp]) (by rw [nx_pa]) (by rfl) (by first | exact hV | simp) ?_))))
  refine cR rfl rfl (()) (by rfl) (by trivial) ?_
  exact Tf
 ·
  obtain ⟨o5,o7,o9,o10,o11⟩:=can_obj hx.v.ck hc
  have hsh:=hx.v.ck.sh
  have hlt:l.getD t 0 < maxC:=by
    have h9:=hv.2 (by unfold relK;omega)
    rw [thF_eq hth,Int.toNat_natCast] at h9;exact h9
  obtain ⟨p0,p1,p2,p3⟩:=o9 k9
  obtain ⟨pp,hpp⟩:=cP (l:=pl) (i:=o.toNat) (by rw [← hpl];omega)
  obtain ⟨s0,s1,s2⟩:=stF_nz (can_th hc)
  have hst2:stF (nxF x.v.ck k ((t:Nat):Int) o) ((t:Nat):Int)=(2,o,(opF x.v.ck o).1):=by
    rw [(nxF_k hc).2.2.2.1 k9,stF_set s0 s1 rfl,if_pos rfl]
  have sp_20:=Fa.rel_arr1 b (.map (some m1)) (.map (some m2)) (.map (some m3)) (.slice va x.vs.length vc) (.int .i64 x.cost) tb l ta tc hlc k t o htn hlt cb x.v.ck.pa.length pa pc (nxF x.v.ck k ((t:Nat):Int) o) (next_inv hx.v.ck _ _ _) pl (by rw [hpl]) po poc pp hpp p0 (by rw [← hpl,← hx.v.ck.bl];have:=hx.v.ck.sh.pl;rw [← hx.v.ck.bl] at this;exact this) (opF x.v.ck o).1 hst2 m4 F4 x.v.rd k9 q hq (hx.v.rdc _ _ hq)
  refine qM rfl rfl rfl rfl rfl rfl κ'55 (sp_20) Ts ?_
  rintro ⟨ia,ic,G4⟩ -
  try simp only [List.cons_append,List.nil_append]
  try simp only [List.cons_append,List.nil_append]
  refine qV (s_vecF tb ia ic (icL l t) Ts ?_)
  refine sG (F:=F1) (T:=x.v.th) (S:=[]) ((t:Nat):Int) F1 (upd x.v.th ((t:Nat):Int) (some (icL l t))) Ts (by simp) htF (fun _ _ _=>rfl) sQ (fun q h _=>sB h) ?_
  refine qS (qW [] (e':=[]) rfl ?_)
  refine kK (qQ (qG (qC (.q 0 (.done)) Kr ?_)))
  refine qR rfl rfl rfl rfl (qS (qQ (qJ (df_fold (b:=b) (feF x k ((t:Nat):Int) o) (pa:=pa) (pc:=pc) (po:=po) (poc:=poc) (cb:=cb) (m1:=m1) (m2:=m2) (m3:=m3) (m4:=m4) (va:=va) (vc:=vc) (F1:=F1) (F2:=F2) (F3:=F3) (F4:=G4) (V:=V) Ts (by rw [fe_no hv Om Om,vn9 hth k9,Int.toNat_natCast,← hx.rp o _ q p0 hq rfl]) (by rw [nx_pa]) (by rfl) (by first | exact hV | simp) ?_))))
  refine cR rfl rfl (()) (by rfl) (by trivial) ?_
  exact Tf
 have sp_21:=Fa.rel_none b tb k t o h7 h6 h4 h9
 refine qM rfl rfl rfl rfl rfl rfl κ'55 (sp_21) Ts ?_
 rintro ⟨⟩ -
 try simp only [List.cons_append,List.nil_append]
 refine qV (s_vecF tb ta tc l Ts ?_)
 refine sG (F:=F1) (T:=x.v.th) (S:=[]) ((t:Nat):Int) F1 x.v.th Ts (by simp) htF (fun _ _ _=>rfl) hth (fun _ _ _=>rfl) ?_
 refine qS (qW [] (e':=[]) rfl ?_)
 refine kK (qQ (qG (qC (.q 0 (.done)) Kr ?_)))
 refine qR rfl rfl rfl rfl (qS (qQ (qJ (df_fold (b:=b) (feF x k ((t:Nat):Int) o) (pa:=pa) (pc:=pc) (po:=po) (poc:=poc) (cb:=cb) (m1:=m1) (m2:=m2) (m3:=m3) (m4:=m4) (va:=va) (vc:=vc) (F1:=F1) (F2:=F2) (F3:=F3) (F4:=F4) (V:=V) Ts (by rw [fe_no hv Om Om,vn0 k5 k3 k8 k10 h6 h4 h9 h7]) (by rw [nx_pa]) (by rfl) (by first | exact hV | simp) ?_))))
 refine cR rfl rfl (()) (by rfl) (by trivial) ?_
 exact Tf
theorem event_spec (pa:Option Addr) (pc:Nat) (po:Option Addr) (poc b:Nat) (x:FS) (hx:FInv x) (hn:x.v.ck.n≤100000000000000) (pl:List Int) (hpl:x.v.ck.pa=pl) (k t o:Int):Spec Try.prog 14 [.pointer (some ⟨b,0,none⟩),.agg #[.int .i64 k,.int .i64 t,.int .i64 o]] [dfR pa pc po poc b x,own 1 encZ pa pc pl,own 1 encZ po poc pl] (fun (_:Unit)=>.int .i64 (feE x k t o)) (fun _=>True) (fun _=>[dfR pa pc po poc b (feF x k t o),own 1 encZ pa pc pl,own 1 encZ po poc pl]):=by
  by_cases hv:vcanF x.v k t o
  · obtain ⟨h0,-⟩:=th_rng hx.v (can_th hv.1)
    obtain ⟨i,rfl⟩:=Int.eq_ofNat_of_zero_le h0
    rw [feE,if_pos hv]
    exact event_can pa pc po poc b x hx hn pl hpl k i o hv
  · rw [feE,feF,if_neg hv,if_neg hv]
    by_cases hc:canF x.v.ck k t o
    · obtain ⟨h0,-⟩:=th_rng hx.v (can_th hc)
      obtain ⟨i,rfl⟩:=Int.eq_ofNat_of_zero_le h0
      exact event_max pa pc po poc b x hx hn pl hpl k i o hc hv
    · exact event_no pa pc po poc b x hx hn pl hpl k t o hc
end Go.Ab.Fa
