/- What the law Plays rests on, part 2 of 8. -/
import Derived.Test.YtkoclbjiaofkhaaGreatPlaysA
set_option linter.unusedVariables false
set_option linter.unusedSimpArgs false
namespace Go.Ab
open Go
abbrev ek2 (k:Int × Int):Value:=.agg #[.int .i64 k.1,.int .i64 k.2]
theorem asking_pair {P:Program} {T:TypeId} (h:∀ k q:Int × Int,EqC P 9999 T (ek2 k) (ek2 q) (decide (k=q))) {k:Int × Int}:∀ (es:List MapEntry) (ks:List (Int × Int)) (j:Nat),es.map (·.key)=ks.map ek2 →
    ∃ r,(∀ w,(Instr.findAsking T (ek2 k) es j).run P w=.ok r w)∧((r=none∧k ∉ ks)∨∃ i e,r=some (j+i,e.val)∧es[i]?=some e∧ks[i]?=some k)
  | [],ks,j,he=>by
    cases ks with
    | nil=>exact ⟨none,fun w=>rfl,.inl ⟨rfl,by simp⟩⟩
    | cons=>simp at he
  | e::es,ks,j,he=>by
    cases ks with
    | nil=>simp at he
    | cons q ks =>
      simp only [List.map_cons,List.cons.injEq] at he
      obtain ⟨h1,h2⟩:=he
      have h3:∀ w,(Op.equal T (ek2 k) e.key).run P w=.ok (decide (k=q)) w:=fun w=>by rw [h1];exact h k q w
      by_cases hq:k=q
      · subst hq
        refine ⟨some (j,e.val),fun w=>?_,.inr ⟨0,e,rfl,rfl,rfl⟩⟩
        simp only [Instr.findAsking,Sem.run_bind,h3,Result.andThen_ok,decide_true,if_true,Sem.run_pure]
      · obtain ⟨r,h4,h5⟩:=asking_pair h (k:=k) es ks (j+1) h2
        refine ⟨r,fun w=>?_,?_⟩
        · simp only [Instr.findAsking,Sem.run_bind,h3,Result.andThen_ok,decide_eq_false hq,Bool.false_eq_true,if_false,h4]
        · rcases h5 with ⟨a,b⟩ | ⟨i,e',a,b,c⟩
          · exact .inl ⟨a,by simp [hq,b]⟩
          · exact .inr ⟨i+1,e',by rw [a,Nat.add_assoc,Nat.add_comm 1 i],by simpa using b,by simpa using c⟩
theorem chk_int {P:Program} {T:TypeId} {d:IntKind} (h:P.underlying T=some (.int d)) (b:Bool) (m:Nat) (z:Int) (w:World):(Instr.checkKey b (m+1) T (.int .i64 z)).run P w=.ok () w:=by
  simp [Instr.checkKey,run_underlying h]
theorem chk_pair {P:Program} {T:TypeId} {f0 f1:Field} (h:P.underlying T=some (.struct #[f0,f1])) (hn0:(f0.name != "_")=true) (hn1:(f1.name != "_")=true) (ho0:f0.offset=0) (ho1:f1.offset=1)
    {k0 k1:IntKind} (hu0:P.underlying f0.type=some (.int k0)) (hu1:P.underlying f1.type=some (.int k1)) (hA0:∀ w,(isAgg f0.type).run P w=.ok false w) (hA1:∀ w,(isAgg f1.type).run P w=.ok false w) (b:Bool) (m:Nat) (k:Int × Int) (w:World) :
    (Instr.checkKey b (m+2) T (ek2 k)).run P w=.ok () w:=by
  have a0:f0.name ≠ "_" := by simpa using hn0
  have a1:f1.name ≠ "_" := by simpa using hn1
  have c0:=fun w=>chk_int hu0 b m k.1 w
  have c1:=fun w=>chk_int hu1 b m k.2 w
  have p0:∀ w,(part f0.type #[.int .i64 k.1,.int .i64 k.2] f0.offset).run P w=.ok (.int .i64 k.1) w:=fun w=>by
    simp [part,hA0,ho0]
  have p1:∀ w,(part f1.type #[.int .i64 k.1,.int .i64 k.2] f1.offset).run P w=.ok (.int .i64 k.2) w:=fun w=>by
    simp [part,hA1,ho1]
  rw [Instr.checkKey]
  simp [run_underlying h,a0,a1,p0,p1,c0,c1]
theorem same_pair (m:Nat) (k:Int × Int):Instr.sameBits (m+1) (ek2 k) (ek2 k)=true:=by
  rw [Instr.sameBits];simp [Instr.sameBits]
theorem keyOK_pair {P:Program} {T:TypeId} {f0 f1:Field} (h:P.underlying T=some (.struct #[f0,f1])) (hn0:(f0.name != "_")=true) (hn1:(f1.name != "_")=true) (ho0:f0.offset=0) (ho1:f1.offset=1)
    {k0 k1:IntKind} (hu0:P.underlying f0.type=some (.int k0)) (hu1:P.underlying f1.type=some (.int k1)) (hA0:∀ w,(isAgg f0.type).run P w=.ok false w) (hA1:∀ w,(isAgg f1.type).run P w=.ok false w) (hp:P.stoodInHeld T=false):KeyOK P T ek2 where
  chk:=fun b k w=>chk_pair h hn0 hn1 ho0 ho1 hu0 hu1 hA0 hA1 b 9998 k w
  same:=fun k=>same_pair 9999 k
  fnd:=fun k es ks he=>by
    have hE:∀ k q:Int × Int,EqC P 9999 T (ek2 k) (ek2 q) (decide (k=q)):=fun k q=>by
      have h1:EqF P 9998 [.int .i64 k.1,.int .i64 k.2] [.int .i64 q.1,.int .i64 q.2] [f0,f1] (decide (k.1=q.1) && decide (k.2=q.2)) :=
        eqf_cons hn0 hA0 (by rw [ho0];rfl) (by rw [ho0];rfl) (eqc_int hu0) (eqf_last hn1 hA1 (by rw [ho1];rfl) (by rw [ho1];rfl) (eqc_int hu1))
      have h2:=eqc_struct (T:=T) (fs:=[f0,f1]) h hp h1
      have h3:(decide (k.1=q.1) && decide (k.2=q.2))=decide (k=q):=by rw [Bool.eq_iff_iff];simp [Prod.ext_iff]
      rw [h3] at h2;exact h2
    cases es with
    | nil =>
      cases ks with
      | nil=>exact ⟨none,fun w=>by simp [Instr.findKey,run_underlying h,Instr.findNow],.inl ⟨rfl,by simp⟩⟩
      | cons=>simp at he
    | cons e es =>
      obtain ⟨r,h1,h2⟩:=asking_pair hE (k:=k) (e::es) ks 0 he
      have hf:Instr.findNow (.struct #[f0,f1]) (ek2 k) (e::es) 0=none:=by simp [Instr.findNow,Instr.sameNow]
      refine ⟨r,fun w=>?_,?_⟩
      · simp only [Instr.findKey,Sem.run_bind,run_underlying h,Result.andThen_ok,hf,h1]
      · rcases h2 with h2 | ⟨i,e',a,b,c⟩
        · exact .inl h2
        · exact .inr ⟨i,e',by rw [a,Zd],b,c⟩
theorem lk_erase_self {κ β:Type} {k:κ} {b:β}:∀ {l:List (κ × β)} {i:Nat},(l.map (·.1)).Nodup→l[i]?=some (k,b)→k ∉ (l.eraseIdx i).map (·.1)
  | [],i,_,h=>by simp at h
  | p::l,0,hn,h=>by
    simp at h;subst h
    simp only [List.map_cons,List.nodup_cons] at hn
    simpa using hn.1
  | p::l,i+1,hn,h=>by
    simp at h
    simp only [List.map_cons,List.nodup_cons] at hn
    simp only [List.eraseIdx_cons_succ,List.map_cons,List.mem_cons,not_or]
    refine ⟨fun e=>hn.1 ?_,lk_erase_self hn.2 h⟩
    rw [← e];exact List.mem_map.2 ⟨_,List.mem_of_getElem? h,rfl⟩
/-- What a list of entries says of a key. -/
def lk {κ β:Type} [DecidableEq κ] (k:κ):List (κ × β)→Option β
  | []=>none
  | p::l=>if p.1=k then some p.2 else lk k l
section
variable {κ β:Type} [DecidableEq κ]
theorem lk_none {k:κ}:∀ {l:List (κ × β)},k ∉ l.map (·.1)→lk k l=none
  | [],_=>rfl
  | p::l,h=>by
    simp only [List.map_cons,List.mem_cons,not_or] at h
    rw [lk,if_neg (fun e=>h.1 e.symm),lk_none h.2]
theorem lk_get {k:κ} {b:β}:∀ {l:List (κ × β)},lk k l=some b→∃ i:Nat,l[i]?=some (k,b)
  | [],h=>by cases h
  | p::l,h=>by
    unfold lk at h
    split at h
    · rename_i e;subst e;cases h;exact ⟨0,rfl⟩
    · obtain ⟨i,hi⟩:=lk_get h;exact ⟨i+1,by simpa using hi⟩
theorem lk_erase {k q:κ} {b:β}:∀ {l:List (κ × β)} {i:Nat},(l.map (·.1)).Nodup→l[i]?=some (k,b)→q≠k→lk q (l.eraseIdx i)=lk q l
  | [],i,_,h,_=>by simp at h
  | p::l,0,hn,h,hq=>by
    simp at h;subst h
    simp only [List.eraseIdx_cons_zero,lk]
    rw [if_neg (Ne.symm hq)]
  | p::l,i+1,hn,h,hq=>by
    simp at h
    simp only [List.map_cons,List.nodup_cons] at hn
    simp only [List.eraseIdx_cons_succ,lk]
    rw [lk_erase hn.2 h hq]
end
/-- What lies behind the values of a table F, but for the keys S; T tells what is there. -/
def rest {κ ν τ:Type} [DecidableEq κ] (res:ν→τ→HProp) (F:κ→Option ν) (T:κ→Option τ) (S:List κ):HProp:=fun h =>
  ∃ L:List (κ × ν × τ),(L.map (·.1)).Nodup∧(∀ k,k ∉ S→F k=(lk k L).map (·.1)∧T k=(lk k L).map (·.2))∧(∀ k∈S,k ∉ L.map (·.1))∧bigS (fun p=>res p.2.1 p.2.2) L h
section
variable {κ ν τ:Type} [DecidableEq κ] {res:ν→τ→HProp} {F F':κ→Option ν} {T T':κ→Option τ} {S:List κ}
variable {w0:World} {ds:List Deferred} {n:Nat} {e:Env} {Γ Γ':List HProp} {X:Act→World→Prop}
theorem rest_take {k:κ} {t:τ} {h:Hp} (hk:k ∉ S) (ht:T k=some t) (s:Sat (rest res F T S::Γ) h):∃ v,F k=some v∧Sat (res v t::rest res F T (k::S)::Γ) h:=by
  obtain ⟨h1,l1,⟨L,hn,hF,hS,hb⟩,s1⟩:=s
  have hf:=hF k hk
  rw [ht] at hf
  cases hL:lk k L with
  | none=>rw [hL] at hf;simp at hf
  | some p =>
    rw [hL] at hf
    obtain ⟨v,t'⟩:=p
    simp at hf
    obtain ⟨hf1,hf2⟩:=hf
    subst hf2
    obtain ⟨i,hi⟩:=lk_get hL
    refine ⟨v,hf1,?_⟩
    have s2:Sat (bigS (fun p:κ × ν × τ=>res p.2.1 p.2.2) L::Γ) h:=⟨h1,l1,hb,s1⟩
    obtain ⟨h3,l3,a3,h4,l4,a4,s4⟩:=big_take hi s2
    refine ⟨h3,l3,a3,h4,l4,⟨L.eraseIdx i,((List.eraseIdx_sublist L i).map _).nodup hn,fun q hq=>?_,fun q hq=>?_,a4⟩,s4⟩
    · simp only [List.mem_cons,not_or] at hq
      rw [lk_erase hn hi hq.1]
      exact hF q hq.2
    · rcases List.mem_cons.1 hq with rfl | hq
      · exact lk_erase_self hn hi
      · exact fun h=>hS q hq (((List.eraseIdx_sublist L i).map _).subset h)
theorem rest_miss {k:κ} {h:Hp} (hk:k ∉ S) (ht:T k=none) (s:Sat (rest res F T S::Γ) h):F k=none∧Sat (rest res F T (k::S)::Γ) h:=by
  obtain ⟨h1,l1,⟨L,hn,hF,hS,hb⟩,s1⟩:=s
  have hf:=hF k hk
  rw [ht] at hf
  cases hL:lk k L with
  | some p=>rw [hL] at hf;simp at hf
  | none =>
    rw [hL] at hf
    refine ⟨hf.1,h1,l1,⟨L,hn,fun q hq=>hF q (fun h=>hq (List.mem_cons_of_mem _ h)),fun q hq=>?_,hb⟩,s1⟩
    rcases List.mem_cons.1 hq with rfl | hq
    · intro hm
      obtain ⟨p,hp,rfl⟩:=List.mem_map.1 hm
      have:∀ {l:List (κ × ν × τ)},p∈l→lk p.1 l≠none:=by
        intro l hl
        induction l with
        | nil=>cases hl
        | cons a l ih =>
          unfold lk
          split
          · simp
          · rename_i ha
            rcases List.mem_cons.1 hl with rfl | hl
            · exact absurd rfl ha
            · exact ih hl
      exact this hp hL
    · exact hS q hq
theorem rest_put {k:κ} {v:ν} {t:τ} {h:Hp} (hk:k ∉ S) (hF':F' k=some v) (ho:∀ q,q≠k→q ∉ S→F' q=F q) (hT':T' k=some t) (hot:∀ q,q≠k→q ∉ S→T' q=T q)
    (s:Sat (res v t::rest res F T (k::S)::Γ) h):Sat (rest res F' T' S::Γ) h:=by
  obtain ⟨h1,l1,a1,h2,l2,⟨L,hn,hF,hS,hb⟩,s2⟩:=s
  have s0:=Bun.unfold (Γ:=L.map fun p:κ × ν × τ=>res p.2.1 p.2.2) (Δ:=Γ) ⟨h2,l2,hb,s2⟩
  have s3:Sat (bigS (fun p:κ × ν × τ=>res p.2.1 p.2.2) ((k,v,t)::L)::Γ) h:=big_split (L:=(k,v,t)::L) ⟨h1,l1,a1,s0⟩
  obtain ⟨h4,l4,a4,s4⟩:=s3
  refine ⟨h4,l4,⟨(k,v,t)::L,?_,fun q hq=>?_,fun q hq=>?_,a4⟩,s4⟩
  · simp only [List.map_cons,List.nodup_cons]
    exact ⟨hS k List.mem_cons_self,hn⟩
  · by_cases hqk:q=k
    · subst hqk
      rw [lk,if_pos rfl,hF',hT']
      exact ⟨rfl,rfl⟩
    · rw [lk,if_neg (Ne.symm hqk),ho q hqk hq,hot q hqk hq]
      exact hF q (by simp [hqk,hq])
  · simp only [List.map_cons,List.mem_cons,not_or]
    exact ⟨fun e=>hk (e ▸ hq),hS q (List.mem_cons_of_mem _ hq)⟩
/-- Nothing is at a key any more. -/
theorem rest_none {k:κ} {h:Hp} (hF':F' k=none) (ho:∀ q,q≠k→q ∉ S→F' q=F q) (hT':T' k=none) (hot:∀ q,q≠k→q ∉ S→T' q=T q)
    (s:Sat (rest res F T (k::S)::Γ) h):Sat (rest res F' T' S::Γ) h:=by
  obtain ⟨h2,l2,⟨L,hn,hF,hS,hb⟩,s2⟩:=s
  refine ⟨h2,l2,⟨L,hn,fun q hq=>?_,fun q hq=>hS q (List.mem_cons_of_mem _ hq),hb⟩,s2⟩
  by_cases hqk:q=k
  · subst hqk
    rw [lk_none (hS q List.mem_cons_self),hF',hT'];exact ⟨rfl,rfl⟩
  · rw [ho q hqk hq,hot q hqk hq]
    exact hF q (by simp [hqk,hq])
theorem rest_new {h:Hp} (hF:∀ k,F k=none) (hT:∀ k,T k=none) (s:Sat Γ h):Sat (rest res F T []::Γ) h:=by
  obtain ⟨h1,l1,a1,s1⟩:=big_nil (f:=fun p:κ × ν × τ=>res p.2.1 p.2.2) s
  exact ⟨h1,l1,⟨[],by simp,fun k _=>⟨by rw [hF];rfl,by rw [hT];rfl⟩,fun k hk=>absurd hk (by simp),a1⟩,s1⟩
theorem s_rest_take (k:κ) {t:τ} (tk:Take Γ (rest res F T S) Γ') (hk:k ∉ S) (ht:T k=some t) (k1:∀ v,F k=some v→Le (St w0 ds n e (res v t::rest res F T (k::S)::Γ')) X):Le (St w0 ds n e Γ) X:=fun a w s=>by
  obtain ⟨v,hv,s1⟩:=rest_take hk ht (tk _ s.heap)
  exact k1 v hv a w ⟨s.defers,s.size,s.env,s1,s.amb⟩
theorem s_rest_miss (k:κ) (tk:Take Γ (rest res F T S) Γ') (hk:k ∉ S) (ht:T k=none) (k1:F k=none→Le (St w0 ds n e (rest res F T (k::S)::Γ')) X):Le (St w0 ds n e Γ) X:=fun a w s=>by
  obtain ⟨hv,s1⟩:=rest_miss hk ht (tk _ s.heap)
  exact k1 hv a w ⟨s.defers,s.size,s.env,s1,s.amb⟩
theorem cN (k:κ) (F':κ→Option ν) (T':κ→Option τ) {v:ν} {t:τ} (tk:Takes Γ [res v t,rest res F T (k::S)] Γ') (hk:k ∉ S) (hF':F' k=some v) (ho:∀ q,q≠k→q ∉ S→F' q=F q) (hT':T' k=some t) (hot:∀ q,q≠k→q ∉ S→T' q=T q)
    (k1:Le (St w0 ds n e (rest res F' T' S::Γ')) X):Le (St w0 ds n e Γ) X:=cQ (fun h s=>rest_put hk hF' ho hT' hot (tk h s)) k1
theorem s_rest_none (k:κ) (F':κ→Option ν) (T':κ→Option τ) (tk:Take Γ (rest res F T (k::S)) Γ') (hF':F' k=none) (ho:∀ q,q≠k→q ∉ S→F' q=F q) (hT':T' k=none) (hot:∀ q,q≠k→q ∉ S→T' q=T q)
    (k1:Le (St w0 ds n e (rest res F' T' S::Γ')) X):Le (St w0 ds n e Γ) X:=cQ (fun h s=>rest_none hF' ho hT' hot (tk h s)) k1
theorem s_rest_new (F:κ→Option ν) (T:κ→Option τ) (hF:∀ k,F k=none) (hT:∀ k,T k=none) (k1:Le (St w0 ds n e (rest res F T []::Γ)) X):Le (St w0 ds n e Γ) X:=cQ (fun h s=>rest_new hF hT s) k1
theorem sL {k:κ} {v:Option τ}:upd T k v k=v:=by simp [upd]
theorem sF {k q:κ} {v:Option τ} (h:q≠k):upd T k v q=T q:=by simp [upd,h]
end
/-- What lies behind the elements of a list V; Y tells what is there. -/
def restL {ν τ:Type} (res:ν→τ→HProp) (V:List ν) (Y:List τ) (S:List Nat):HProp:=rest res (fun i:Nat=>V[i]?) (fun i:Nat=>Y[i]?) S
section
variable {ν τ:Type} {res:ν→τ→HProp} {V:List ν} {Y:List τ} {S:List Nat}
variable {w0:World} {ds:List Deferred} {n:Nat} {e:Env} {Γ Γ':List HProp} {X:Act→World→Prop}
theorem s_restL_nil (k:Le (St w0 ds n e (restL res ([]:List ν) ([]:List τ) []::Γ)) X):Le (St w0 ds n e Γ) X:=s_rest_new _ _ (fun _=>rfl) (fun _=>rfl) k
theorem get_snoc {α:Type} {l:List α} {a:α} {q:Nat} (h:q≠l.length):(l++[a])[q]?=l[q]?:=by
  rcases Nat.lt_or_ge q l.length with h1 | h1
  · rw [List.getElem?_append_left h1]
  · rw [List.getElem?_eq_none (by simp;omega),List.getElem?_eq_none Om]
theorem s_restL_push (v:ν) (y:τ) (tk:Takes Γ [res v y,restL res V Y []] Γ') (hl:V.length=Y.length) (k:Le (St w0 ds n e (restL res (V++[v]) (Y++[y]) []::Γ')) X):Le (St w0 ds n e Γ) X:=cQ (fun h s=>by
  obtain ⟨h1,l1,a1,s1⟩:=tk h s
  obtain ⟨-,s2⟩:=rest_miss (k:=Y.length) (by simp) (by simp) s1
  exact rest_put (k:=Y.length) (by simp) (by simp [← hl]) (fun q hq _=>get_snoc (by rw [hl];exact hq)) (by simp) (fun q hq _=>get_snoc hq) ⟨h1,l1,a1,s2⟩) k
theorem cZ (i:Nat) {y:τ} (tk:Take Γ (restL res V Y S) Γ') (hi:i ∉ S) (hy:Y[i]?=some y) (k:∀ v,V[i]?=some v→Le (St w0 ds n e (res v y::restL res V Y (i::S)::Γ')) X):Le (St w0 ds n e Γ) X:=s_rest_take i tk hi hy k
theorem get_set_ne {α:Type} {l:List α} {a:α} {i q:Nat} (h:q≠i):(l.set i a)[q]?=l[q]?:=by rw [List.getElem?_set_ne (Ne.symm h)]
theorem cD (i:Nat) (v:ν) (y:τ) (tk:Takes Γ [res v y,restL res V Y (i::S)] Γ') (hi:i ∉ S) (hv:i < V.length) (hy:i < Y.length) (k:Le (St w0 ds n e (restL res (V.set i v) (Y.set i y) S::Γ')) X):Le (St w0 ds n e Γ) X :=
  cQ (fun h s=>rest_put (k:=i) hi (List.getElem?_set_self hv) (fun q hq _=>get_set_ne hq) (List.getElem?_set_self hy) (fun q hq _=>get_set_ne hq) (tk h s)) k
theorem cY (i:Nat) {v:ν} {y:τ} (tk:Takes Γ [res v y,restL res V Y (i::S)] Γ') (hi:i ∉ S) (hv:V[i]?=some v) (hy:Y[i]?=some y) (k:Le (St w0 ds n e (restL res V Y S::Γ')) X):Le (St w0 ds n e Γ) X :=
  cQ (fun h s=>rest_put (k:=i) hi hv (fun q hq _=>rfl) hy (fun q hq _=>rfl) (tk h s)) k
end
end Go.Ab
