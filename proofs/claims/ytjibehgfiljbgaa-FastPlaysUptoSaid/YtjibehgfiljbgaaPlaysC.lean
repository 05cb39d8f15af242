/- What the law Plays rests on, part 3 of 8. -/
import Derived.Test.YtjibehgfiljbgaaPlaysB
import Derived.Test.YtjibehgfiljbgaaProg
import Derived.Laws.IdiomRangeMap
namespace Go.Ab
open Go Go.Proofs
abbrev υ'146:=@Try.underlying146
abbrev ζ'142:=@Try.sizeOf142
abbrev α'142:=@Try.isAgg142
abbrev υ'142:=@Try.underlying142
abbrev υ'23:=@Try.underlying23
abbrev ζ'3:=@Try.sizeOf3
abbrev α'3:=@Try.isAgg3
abbrev υ'25:=@Try.underlying25
abbrev ζ'23:=@Try.sizeOf23
abbrev α'23:=@Try.isAgg23
abbrev κ'80:=@Try.call80
abbrev υ'3:=@Try.underlying3
abbrev ω'107:=@Try.zeroValue107
abbrev ζ'107:=@Try.sizeOf107
abbrev υ'107:=@Try.underlying107
abbrev ζ'105:=@Try.sizeOf105
abbrev α'105:=@Try.isAgg105
abbrev ζ'144:=@Try.sizeOf144
abbrev α'144:=@Try.isAgg144
abbrev υ'144:=@Try.underlying144
abbrev ζ'153:=@Try.sizeOf153
abbrev υ'153:=@Try.underlying153
abbrev υ'36:=@Try.underlying36
abbrev ζ'34:=@Try.sizeOf34
abbrev α'34:=@Try.isAgg34
abbrev ζ'143:=@Try.sizeOf143
abbrev α'143:=@Try.isAgg143
abbrev υ'143:=@Try.underlying143
abbrev ω'3:=@Try.zeroValue3
abbrev ζ'25:=@Try.sizeOf25
abbrev α'36:=@Try.isAgg36
abbrev ζ'36:=@Try.sizeOf36
abbrev κ'47:=@Try.call47
abbrev ω'153:=@Try.zeroValue153
abbrev α'107:=@Try.isAgg107
abbrev τ'3:=@Try.typeInfo3
abbrev τ'153:=@Try.typeInfo153
abbrev ω'146:=@Try.zeroValue146
abbrev α'25:=@Try.isAgg25
abbrev υ'50:=@Try.underlying50
abbrev ζ'48:=@Try.sizeOf48
abbrev τ'48:=@Try.typeInfo48
abbrev υ'134:=@Try.underlying134
abbrev ζ'50:=@Try.sizeOf50
abbrev α'50:=@Try.isAgg50
abbrev α'48:=@Try.isAgg48
abbrev υ'182:=@Try.underlying182
abbrev ζ'86:=@Try.sizeOf86
abbrev α'86:=@Try.isAgg86
abbrev υ'86:=@Try.underlying86
abbrev ζ'4:=@Try.sizeOf4
abbrev α'4:=@Try.isAgg4
abbrev κ'48:=@Try.call48
abbrev υ'48:=@Try.underlying48
abbrev υ'88:=@Try.underlying88
abbrev υ'81:=@Try.underlying81
abbrev ζ'77:=@Try.sizeOf77
abbrev α'77:=@Try.isAgg77
abbrev υ'77:=@Try.underlying77
abbrev ω'86:=@Try.zeroValue86
abbrev κ'83:=@Try.call83
abbrev ζ'49:=@Try.sizeOf49
abbrev α'49:=@Try.isAgg49
abbrev κ'84:=@Try.call84
abbrev κ'85:=@Try.call85
abbrev κ'30:=@Try.call30
abbrev κ'29:=@Try.call29
abbrev κ'89:=@Try.call89
abbrev ζ'78:=@Try.sizeOf78
abbrev α'78:=@Try.isAgg78
abbrev α'125:=@Try.isAgg125
abbrev ζ'125:=@Try.sizeOf125
abbrev υ'78:=@Try.underlying78
abbrev υ'125:=@Try.underlying125
abbrev ω'132:=@Try.zeroValue132
abbrev υ'136:=@Try.underlying136
abbrev ζ'134:=@Try.sizeOf134
abbrev κ'65:=@Try.call65
abbrev κ'90:=@Try.call90
abbrev ζ'76:=@Try.sizeOf76
abbrev α'76:=@Try.isAgg76
abbrev κ'45:=@Try.call45
abbrev ω'125:=@Try.zeroValue125
abbrev υ'132:=@Try.underlying132
abbrev υ'27:=@Try.underlying27
abbrev κ'32:=@Try.call32
abbrev κ'46:=@Try.call46
abbrev ζ'79:=@Try.sizeOf79
abbrev α'79:=@Try.isAgg79
abbrev υ'79:=@Try.underlying79
abbrev ζ'88:=@Try.sizeOf88
abbrev κ'55:=@Try.call55
abbrev υ'26:=@Try.underlying26
abbrev ω'36:=@Try.zeroValue36
abbrev ω'88:=@Try.zeroValue88
abbrev υ'101:=@Try.underlying101
abbrev ω'101:=@Try.zeroValue101
abbrev υ'61:=@Try.underlying61
abbrev ζ'101:=@Try.sizeOf101
abbrev ω'52:=@Try.zeroValue52
abbrev υ'52:=@Try.underlying52
abbrev ζ'52:=@Try.sizeOf52
abbrev α'52:=@Try.isAgg52
abbrev α'101:=@Try.isAgg101
abbrev υ'4:=@Try.underlying4
abbrev κ'9:=@Try.call9
abbrev κ'22:=@Try.call22
abbrev κ'35:=@Try.call35
abbrev ω'48:=@Try.zeroValue48
abbrev κ'100:=@Try.call100
abbrev υ'91:=@Try.underlying91
abbrev υ'151:=@Try.underlying151
abbrev ζ'149:=@Try.sizeOf149
abbrev α'149:=@Try.isAgg149
abbrev υ'149:=@Try.underlying149
abbrev κ'76:=@Try.call76
abbrev κ'33:=@Try.call33
abbrev α'153:=@Try.isAgg153
abbrev υ'31:=@Try.underlying31
abbrev υ'97:=@Try.underlying97
abbrev ζ'95:=@Try.sizeOf95
abbrev α'95:=@Try.isAgg95
abbrev υ'95:=@Try.underlying95
abbrev ζ'99:=@Try.sizeOf99
abbrev υ'99:=@Try.underlying99
abbrev ζ'66:=@Try.sizeOf66
abbrev α'66:=@Try.isAgg66
abbrev υ'66:=@Try.underlying66
abbrev α'99:=@Try.isAgg99
abbrev ω'99:=@Try.zeroValue99
abbrev κ'91:=@Try.call91
abbrev τ'50:=@Try.typeInfo50
abbrev ω'97:=@Try.zeroValue97
abbrev ζ'91:=@Try.sizeOf91
abbrev ζ'94:=@Try.sizeOf94
abbrev κ'42:=@Try.call42
abbrev α'94:=@Try.isAgg94
abbrev υ'94:=@Try.underlying94
abbrev ζ'115:=@Try.sizeOf115
abbrev υ'115:=@Try.underlying115
abbrev κ'78:=@Try.call78
abbrev α'91:=@Try.isAgg91
abbrev κ'34:=@Try.call34
abbrev κ'41:=@Try.call41
abbrev κ'44:=@Try.call44
abbrev υ'69:=@Try.underlying69
abbrev ζ'67:=@Try.sizeOf67
abbrev α'67:=@Try.isAgg67
abbrev υ'67:=@Try.underlying67
abbrev ζ'61:=@Try.sizeOf61
abbrev α'61:=@Try.isAgg61
abbrev υ'71:=@Try.underlying71
abbrev κ'10:=@Try.call10
abbrev υ'64:=@Try.underlying64
abbrev ζ'71:=@Try.sizeOf71
abbrev κ'15:=@Try.call15
abbrev κ'11:=@Try.call11
end Go.Ab
set_option linter.unusedVariables false
set_option linter.unusedSimpArgs false
set_option maxRecDepth 100000
namespace Go.Ab.Fe
open Go Go.Proofs Go.Ab
abbrev T3:=Int × Int × Int
abbrev T2:=Int × Int
def encZ (z:Int):List Value:=[.int .i64 z]
theorem encZ_len:∀ x,(encZ x).length=1:=fun _=>rfl
theorem encZ_one:∀ x,(encZ x).all Value.oneCell'=true:=fun _=>rfl
def enc3 (x:T3):List Value:=[.int .i64 x.1,.int .i64 x.2.1,.int .i64 x.2.2]
theorem enc3_len:∀ x,(enc3 x).length=3:=fun _=>rfl
theorem enc3_one:∀ x,(enc3 x).all Value.oneCell'=true:=fun _=>rfl
def enc2 (x:T2):List Value:=[.int .i64 x.1,.int .i64 x.2]
theorem enc2_len:∀ x,(enc2 x).length=2:=fun _=>rfl
theorem enc2_one:∀ x,(enc2 x).all Value.oneCell'=true:=fun _=>rfl
abbrev ev3 (x:T3):Value:=.agg #[.int .i64 x.1,.int .i64 x.2.1,.int .i64 x.2.2]
/-- A checker: the shape, how each thread stands, who holds each lock (-1: nobody), each barrier's open round, how many events. -/
structure CS where
  th:Int
  va:Int
  vo:Int
  lk:Int
  pa:List Int
  T:List T3
  O:List Int
  B:List T2
  n:Int
def stF (x:CS) (t:Int):T3:=if t < 0 then (0,0,0) else x.T.getD t.toNat (0,0,0)
def owV (x:CS) (l:Int):Int:=if l < 0 then -1 else x.O.getD l.toNat (-1)
def owF (x:CS) (l:Int):Option Int:=if owV x l=-1 then none else some (owV x l)
def opF (x:CS) (b:Int):T2:=x.B.getD b.toNat (0,0)
def fullF (x:CS) (t:Int):Prop:=(stF x t).1=2∧(stF x t).2.2 < (opF x (stF x t).2.1).1
instance (x:CS) (t:Int):Decidable (fullF x t):=by unfold fullF;infer_instance
def okK (x:CS) (k t o:Int):Prop :=
  (k=1∨k=2)∧o < x.va∨(k=3∨k=4)∧o < x.vo∨k=5∧o < x.lk∧owF x o=none∨k=6∧o < x.lk∧owF x o=some t ∨
  k=7∧o < x.th∧(stF x o).1=0∨k=8∧o < x.th∧(stF x o).1=3∨k=9∧o < x.B.length∨k=11∧o < 1
instance (x:CS) (k t o:Int):Decidable (okK x k t o):=by unfold okK;infer_instance
/-- May the event (kind k, thread t, object o) be next? -/
def canF (x:CS) (k t o:Int):Prop:=((stF x t).1=2∧k=10∧o=(stF x t).2.1∧fullF x t)∨((stF x t).1=1∧0≤o∧okK x k t o)
instance (x:CS) (k t o:Int):Decidable (canF x k t o):=by unfold canF;infer_instance
def arrF (op:T2) (p:Int):T2:=if op.2+1=p then (op.1+1,0) else (op.1,op.2+1)
def nextF (x:CS) (k t o:Int):CS :=
  if k=5 then ⟨x.th,x.va,x.vo,x.lk,x.pa,x.T,x.O.set o.toNat t,x.B,x.n+1⟩
  else if k=6 then ⟨x.th,x.va,x.vo,x.lk,x.pa,x.T,x.O.set o.toNat (-1),x.B,x.n+1⟩
  else if k=7 then ⟨x.th,x.va,x.vo,x.lk,x.pa,x.T.set o.toNat (1,0,0),x.O,x.B,x.n+1⟩
  else if k=9 then ⟨x.th,x.va,x.vo,x.lk,x.pa,x.T.set t.toNat (2,o,(opF x o).1),x.O,x.B.set o.toNat (arrF (opF x o) (x.pa.getD o.toNat 0)),x.n+1⟩
  else if k=10 then ⟨x.th,x.va,x.vo,x.lk,x.pa,x.T.set t.toNat (1,0,0),x.O,x.B,x.n+1⟩
  else if k=11 then ⟨x.th,x.va,x.vo,x.lk,x.pa,x.T.set t.toNat (3,0,0),x.O,x.B,x.n+1⟩
  else ⟨x.th,x.va,x.vo,x.lk,x.pa,x.T,x.O,x.B,x.n+1⟩
def nxF (x:CS) (k t o:Int):CS:=if canF x k t o then nextF x k t o else x
def nxE (x:CS) (k t o:Int):Int:=if canF x k t o then 0 else 6
/-- A shape that may be. -/
structure OkS (th va vo lk:Int) (pa:List Int):Prop where
  th:1≤th∧th≤65535
  va:0≤va∧va≤4096
  vo:0≤vo∧vo≤4096
  lk:0≤lk∧lk≤4096
  pl:pa.length≤4096
  pa:∀ p∈pa,1≤p∧p≤65535
def badP (p:Int):Bool:=decide (p < 1) || decide (65535 < p)
theorem okS_iff {th va vo lk:Int} {pa:List Int}:OkS th va vo lk pa↔((1≤th∧th≤65535)∧(0≤va∧va≤4096)∧(0≤vo∧vo≤4096)∧(0≤lk∧lk≤4096)∧pa.length≤4096∧∀ p∈pa,badP p=false):=by
  constructor
  · rintro ⟨a,b,c,d,e,f⟩
    exact ⟨a,b,c,d,e,fun p hp=>by have:=f p hp;simp [badP];omega⟩
  · rintro ⟨a,b,c,d,e,f⟩
    exact ⟨a,b,c,d,e,fun p hp=>by have:=f p hp;simp [badP] at this;omega⟩
instance (th va vo lk:Int) (pa:List Int):Decidable (OkS th va vo lk pa):=decidable_of_iff _ okS_iff.symm
def newF (th va vo lk:Int) (pa:List Int):CS:=⟨th,va,vo,lk,pa,(List.replicate th.toNat (0,0,0)).set 0 (1,0,0),List.replicate lk.toNat (-1),List.replicate pa.length (0,0),0⟩
/-- What holds of every checker. -/
structure CInv (x:CS):Prop where
  sh:OkS x.th x.va x.vo x.lk x.pa
  tl:(x.T.length:Int)=x.th
  ol:(x.O.length:Int)=x.lk
  bl:x.B.length=x.pa.length
  st:∀ s∈x.T,0≤s.1∧s.1≤3∧(s.1=2→0≤s.2.1∧s.2.1 < x.B.length∧0≤s.2.2∧s.2.2≤(opF x s.2.1).1)∧(s.1≠2→s.2=(0,0))
  op:∀ (i:Nat) (o:T2) (p:Int),x.B[i]?=some o→x.pa[i]?=some p→0≤o.1∧o.1≤x.n∧0≤o.2∧o.2 < p
  ow:∀ v∈x.O,v=-1∨(stF x v).1≠0
  n0:0≤x.n
theorem getD_some {α:Type} {l:List α} {i:Nat} {a d:α} (h:l[i]?=some a):l.getD i d=a:=by simp [List.getD,h]
theorem getD_out {α:Type} {l:List α} {i:Nat} {d:α} (h:l.length≤i):l.getD i d=d:=by simp [List.getD,List.getElem?_eq_none h]
theorem getD_mem' {α:Type} (l:List α) (i:Nat) (d:α):l.getD i d=d∨l.getD i d∈l:=by
  rcases Nat.lt_or_ge i l.length with h | h
  · obtain ⟨a,ha⟩:=cP h
    right;rw [getD_some ha];exact List.mem_of_getElem? ha
  · exact .inl (getD_out h)
theorem getD_set {α:Type} {l:List α} {i j:Nat} {a d:α} (h:i < l.length):(l.set i a).getD j d=if j=i then a else l.getD j d:=by
  simp only [List.getD,List.getElem?_set]
  by_cases e:i=j
  · subst e;simp [h]
  · rw [if_neg e,if_neg (Ne.symm e)]
theorem stF_nz {x:CS} {t:Int} (h:(stF x t).1≠0):0≤t∧t.toNat < x.T.length∧x.T[t.toNat]?=some (stF x t):=by
  unfold stF at h ⊢
  split at h
  · exact absurd rfl h
  · rename_i h0
    rcases Nat.lt_or_ge t.toNat x.T.length with h1 | h1
    · obtain ⟨a,ha⟩:=cP h1
      exact ⟨by omega,h1,by rw [if_neg h0,getD_some ha,ha]⟩
    · rw [getD_out h1] at h;exact absurd rfl h
theorem stF_at {x:CS} {t:Int} (h0:0≤t) (h:t < x.T.length):x.T[t.toNat]?=some (stF x t):=by
  obtain ⟨a,ha⟩:=cP (l:=x.T) (i:=t.toNat) Om
  rw [stF,if_neg Om,getD_some ha,ha]
theorem stF_out {x:CS} {t:Int} (h:t < 0∨(x.T.length:Int)≤t):stF x t=(0,0,0):=by
  unfold stF
  split
  · rfl
  · exact getD_out Om
theorem stF_mem {x:CS} {t:Int}:stF x t=(0,0,0)∨stF x t∈x.T:=by
  unfold stF
  split
  · exact .inl rfl
  · exact getD_mem' _ _ _
theorem stF_inv {x:CS} (hx:CInv x) (t:Int):0≤(stF x t).1∧(stF x t).1≤3∧((stF x t).1=2→0≤(stF x t).2.1∧(stF x t).2.1 < x.B.length∧0≤(stF x t).2.2∧(stF x t).2.2≤(opF x (stF x t).2.1).1)∧((stF x t).1≠2→(stF x t).2=(0,0)):=by
  rcases stF_mem (x:=x) (t:=t) with h | h
  · rw [h];exact ⟨by decide,by decide,fun h=>absurd h (by decide),fun _=>rfl⟩
  · exact hx.st _ h
theorem opF_at {x:CS} {b:Int} (h0:0≤b) (h:b < x.B.length):x.B[b.toNat]?=some (opF x b):=by
  obtain ⟨a,ha⟩:=cP (l:=x.B) (i:=b.toNat) Om
  rw [opF,getD_some ha,ha]
theorem owV_at {x:CS} {l:Int} (h0:0≤l) (h:l < x.O.length):x.O[l.toNat]?=some (owV x l):=by
  obtain ⟨a,ha⟩:=cP (l:=x.O) (i:=l.toNat) Om
  rw [owV,if_neg Om,getD_some ha,ha]
/-- What a checker's maps hold. -/
structure RelC (Fs:Int→Option T3) (Fo:Int→Option Int) (x:CS):Prop where
  st:∀ t,(Fs t).getD (0,0,0)=stF x t
  ow:∀ l,Fo l=owF x l
/-- A checker at b; its shape's list (at pa) is others' too. -/
def ck (pa:Option Addr) (pc b:Nat) (x:CS):HProp:=fun h=>∃ m1 m2 Fs Fo oa oc,RelC Fs Fo x∧Sat [cells b 0 [.int .i64 x.th,.int .i64 x.va,.int .i64 x.vo,.int .i64 x.lk,.slice pa x.pa.length pc,.map (some m1),.map (some m2),.slice oa x.B.length oc,.int .i64 x.n],mapO ekZ ev3 m1 Fs,mapO ekZ ekZ m2 Fo,own 2 enc2 oa oc x.B] h
section
variable {w0:World} {ds:List Deferred} {n:Nat} {e:Env} {Γ:List HProp} {X:Act→World→Prop}
theorem ck_open {pa:Option Addr} {pc b:Nat} {x:CS} (k:∀ m1 m2 Fs Fo oa oc,RelC Fs Fo x→Le (St w0 ds n e (cells b 0 [.int .i64 x.th,.int .i64 x.va,.int .i64 x.vo,.int .i64 x.lk,.slice pa x.pa.length pc,.map (some m1),.map (some m2),.slice oa x.B.length oc,.int .i64 x.n]::mapO ekZ ev3 m1 Fs::mapO ekZ ekZ m2 Fo::own 2 enc2 oa oc x.B::Γ)) X):Le (St w0 ds n e (ck pa pc b x::Γ)) X:=fun a w s=>by
  obtain ⟨h1,l1,⟨m1,m2,Fs,Fo,oa,oc,hr,a1⟩,s1⟩:=s.heap
  exact k m1 m2 Fs Fo oa oc hr a w ⟨s.defers,s.size,s.env,Bun.unfold ⟨h1,l1,a1,s1⟩,s.amb⟩
theorem ck_fold {Γ':List HProp} {b:Nat} (x:CS) {pn on:Nat} {pa:Option Addr} {pc m1 m2:Nat} {Fs:Int→Option T3} {Fo:Int→Option Int} {oa:Option Addr} {oc:Nat}
    (tk:Takes Γ [cells b 0 [.int .i64 x.th,.int .i64 x.va,.int .i64 x.vo,.int .i64 x.lk,.slice pa pn pc,.map (some m1),.map (some m2),.slice oa on oc,.int .i64 x.n],mapO ekZ ev3 m1 Fs,mapO ekZ ekZ m2 Fo,own 2 enc2 oa oc x.B] Γ') (h1:pn=x.pa.length) (h2:on=x.B.length) (hr:RelC Fs Fo x)
    (k:Le (St w0 ds n e (ck pa pc b x::Γ')) X):Le (St w0 ds n e Γ) X:=kF (fun h s=>by
  subst h1 h2
  obtain ⟨h1,l1,a1,s1⟩:=Bun.fold (tk h s)
  exact ⟨h1,l1,⟨m1,m2,Fs,Fo,oa,oc,hr,a1⟩,s1⟩) k
end
theorem none_spec (pa:Option Addr) (pc b:Nat) (x:CS):Spec Try.prog 80 [.pointer (some ⟨b,0,none⟩)] [ck pa pc b x] (fun (_:Unit)=>.bool false) (fun _=>True) (fun _=>[ck pa pc b x]):=by
 refine kP (n:=12) Try.func80 rfl rfl rfl ?_
 intro Γ w0
 simp only [argE,List.cons_append,List.nil_append,Nat.zero_add,Nat.reduceAdd]
 refine qG (qC (.q 0 (.done)) Kr ?_)
 refine qR rfl rfl rfl rfl (qS (qQ (qG (cK (A:=ck pa pc b x) Tk ?_))))
 refine ck_open fun m1 m2 Fs Fo oa oc hR=>?_
 refine qC (.q 0 (.q 1 (.q 2 (.q 3 (.q 4 (.q 5 (.q 6 (.q 7 (.q 8 (.q 9 (.done))))))))))) Kr ?_
 refine qK rfl rfl rfl rfl (cY rfl rfl rfl rfl Try.underlying76 ?_)
 refine kH 4 rfl (v':=.bool false) rfl ?_
 refine qK rfl rfl rfl rfl (qK rfl rfl rfl rfl (qX rfl rfl rfl rfl (qL (k:=5) rfl rfl rfl rfl υ'146 rfl ζ'142 rfl ?_)))
 refine qP (j:=5) rfl rfl rfl rfl α'142 Tk Az (by rfl) ?_
 refine q_eq_nilm rfl rfl rfl rfl υ'142 ?_
 refine kH 10 rfl (v':=.bool false) rfl ?_
 refine kC rfl rfl rfl rfl rfl (qR rfl rfl rfl rfl (qS (qW [2] (e':=[(2,_)]) rfl ?_)))
 refine qQ (qJ (ck_fold (b:=b) x (pa:=pa) (pc:=pc) (m1:=m1) (m2:=m2) (oa:=oa) (oc:=oc) Ts (by rfl) (by rfl) (hR) ?_))
 refine cR rfl rfl (()) (by first | rfl | (first | rfl | (congr 1;done) | (congr 1 <;> first | rfl | omega | (simp;done) | (simp;omega)))) (by trivial) ?_
 exact Tf
theorem asked_spec (cv:Value) (i m:Int):Spec Try.prog 81 [cv,.int .i64 i,.int .i64 m] [] (fun (_:Unit)=>.int .i64 (if 0≤i∧i < m then 0 else 2)) (fun _=>True) (fun _=>[]):=by
 refine kP (n:=14) Try.func81 rfl rfl rfl ?_
 intro Γ w0
 simp only [argE,List.cons_append,List.nil_append,Nat.zero_add,Nat.reduceAdd]
 refine qG (qC (.q 0 (.done)) Kr ?_)
 refine qR rfl rfl rfl rfl (qS (qQ (qG (qG (qC (.q 0 (.q 1 (.q 2 (.q 3 (.q 4 (.q 5 (.q 6 (.done)))))))) Kr ?_)))))
 refine qK rfl rfl rfl rfl (qN rfl rfl rfl rfl rfl (sK _ _ _ _) ?_)
 refine qK rfl rfl rfl rfl ?_
 refine cL 9 rfl (fun g_1=>?_) (fun g_1=>?_)
 ·
  refine qY rfl rfl rfl rfl (qY rfl rfl rfl rfl (qY rfl rfl rfl rfl (kZ rfl rfl rfl rfl rfl (qS (qW [13] (e':=[(13,_)]) rfl ?_)))))
  refine qQ (cN rfl ?_)
  refine qG (qC (.q 0 (.done)) Kr ?_)
  refine qR rfl rfl rfl rfl (qS (qQ (qJ (qD (cR rfl rfl (()) (by rw [if_neg Om]) (by trivial) ?_)))))
  exact Tf
 refine qK rfl rfl rfl rfl (qK rfl rfl rfl rfl (qN rfl rfl rfl rfl rfl (b_geq _ _ _ _) ?_))
 refine kC rfl rfl rfl rfl rfl (qS (qW [13] (e':=[(13,_)]) rfl ?_))
 refine qQ ?_
 refine qB rfl (fun h_2=>?_) (fun h_2=>?_)
 ·
  refine qG (qC (.q 0 (.done)) Kr ?_)
  refine qR rfl rfl rfl rfl (qS (qQ (qJ (qD (cR rfl rfl (()) (by rw [if_neg Om]) (by trivial) ?_)))))
  exact Tf
 refine qF (qQ (qG (qC (.q 0 (.done)) Kr ?_)))
 refine qR rfl rfl rfl rfl (qS (qQ (qJ (cR rfl rfl (()) (by rw [if_pos Om]) (by trivial) ?_))))
 exact Tf
theorem bad1_spec (p:Int):Spec Try.prog 99 [.int .i64 p] [] (fun (_:Unit)=>.bool (badP p)) (fun _=>True) (fun _=>[]):=by
 refine kP (n:=9) Try.func99 rfl rfl rfl ?_
 intro Γ w0
 simp only [argE,List.cons_append,List.nil_append,Nat.zero_add,Nat.reduceAdd]
 refine qG (qC (.q 0 (.done)) Kr ?_)
 refine qR rfl rfl rfl rfl (qS (qQ (qG (qC (.q 0 (.q 1 (.q 2 (.q 3 (.q 4 (.q 5 (.q 6 (.done)))))))) Kr ?_))))
 refine qK rfl rfl rfl rfl (qN rfl rfl rfl rfl rfl (sK _ _ _ _) ?_)
 refine qK rfl rfl rfl rfl ?_
 refine cL 5 rfl (fun g_1=>?_) (fun g_1=>?_)
 ·
  refine qY rfl rfl rfl rfl (qY rfl rfl rfl rfl (kZ rfl rfl rfl rfl rfl (qR rfl rfl rfl rfl (qS (qW [2] (e':=[(2,_)]) rfl ?_)))))
  refine qQ (qJ (cR rfl rfl (()) (by simp [badP, *]) (by trivial) ?_))
  exact Tf
 refine qK rfl rfl rfl rfl (qN rfl rfl rfl rfl rfl (b_gtr _ _ _ _) ?_)
 refine kC rfl rfl rfl rfl rfl (qR rfl rfl rfl rfl (qS (qW [2] (e':=[(2,_)]) rfl ?_)))
 refine qQ (qJ (cR rfl rfl (()) (by simp [badP, *]) (by trivial) ?_))
 exact Tf
theorem index_spec (xs:List Int) (ao:Option Addr) (n c:Nat) (A:HProp) (hr:RdS A ao (xs.flatMap encZ)) (hn:xs.length=n) (hb:n≤4000000):Spec Try.prog 105 [.slice ao n c,.func (.func 99) #[] #[]] [A] (fun (r:Int)=>.int .i64 r) (fun r=>((∃ p∈xs,badP p=true)→0≤r)∧(0≤r→∃ p∈xs,badP p=true)) (fun r=>[A]):=by
 refine kP (n:=19) Try.func105 rfl rfl rfl ?_
 intro Γ w0
 simp only [argE,List.cons_append,List.nil_append,Nat.zero_add,Nat.reduceAdd]
 refine qG (qC (.q 0 (.done)) Kr ?_)
 refine qR rfl rfl rfl rfl (qS (qQ (qG (qG (qC (.q 0 (.q 1 (.q 2 (.done)))) Kr ?_)))))
 refine qK rfl rfl rfl rfl (cH rfl rfl rfl rfl υ'23 ?_)
 refine qK rfl rfl rfl rfl (qS (qQ (kS ?_)))
 refine cD (α:=Nat) (fun (i:Nat)=>i≤n∧(∀ (j:Nat) (p:Int),j < i→xs[j]?=some p→badP p=false)) (fun (i:Nat)=>[(8,.int .i64 ((i:Nat):Int))]) (fun (i:Nat)=>[]) (fun (i:Nat)=>n - i) [0,1,7] (er:=[(0,_),(1,_),(7,_)]) rfl (0) ?_ (by exact ⟨rfl,trivial⟩) (by (try dsimp only);(try simp only [Nat.add_zero,Nat.zero_add]);(repeat ((with_reducible apply Z2);focus (first | (with_reducible (repeat (first | exact Z0 | apply Z1));done) | (repeat (first | exact Z0 | apply Z1)))));exact Z3) ?_
 · exact ⟨Nat.zero_le _,fun j p h=>by omega⟩
 rintro i ⟨hle_i,hI⟩
 try simp only [List.cons_append,List.nil_append]
 refine qG (qC (.q 0 (.done)) Kr ?_)
 refine qN rfl rfl rfl rfl rfl (sK _ _ _ _) ?_
 refine qS (qQ (qG ?_))
 refine qB rfl (fun hlt=>?_) (fun hlt=>?_)
 ·
  refine qF (qQ (qG (kS (qG ?_))))
  obtain ⟨p,hp⟩:=cP (l:=xs) (i:=i) Om
  refine qC (.q 0 (.q 1 (.done))) Kr ?_
  refine qK rfl rfl rfl rfl (qR rfl rfl rfl rfl (qS (qQ (qG (qC (.q 0 (.q 1 (.q 2 (.q 3 (.q 4 ((.l 5 [] (.done)))))))) Kr ?_)))))
  refine qK rfl rfl rfl rfl (qK rfl rfl rfl rfl (qK rfl rfl rfl rfl (rC (sz:=0) (k:=i) rfl rfl rfl rfl rfl υ'23 ζ'3 (hr) hp encZ_len (by first | rfl | omega) Om ?_)))
  intro ib14 io14 _ hd14
  refine q_load rfl rfl rfl rfl α'3 Tk (hd14 0 (.int .i64 p) rfl) ?_
  have sp_1:=bad1_spec p
  refine qM rfl rfl rfl rfl rfl rfl Try.call99 (sp_1) Ts ?_
  rintro ⟨⟩ -
  try simp only [List.cons_append,List.nil_append]
  refine qV (qS (qW [0,1,5,7,8,16] (e':=[(0,_),(1,_),(5,_),(7,_),(8,_),(16,_)]) rfl ?_))
  refine qQ ?_
  refine c_cond rfl (fun hbad=>?_) (fun hbad=>?_)
  ·
   try simp only [Bool.and_eq_true,Bool.or_eq_true,Bool.not_eq_true',Bool.not_eq_false',Bool.and_eq_false_iff,Bool.or_eq_false_iff,decide_eq_true_eq,decide_eq_false_iff_not] at hbad
   refine qG (qC (.q 0 (.q 1 (.done))) Kr ?_)
   refine qK rfl rfl rfl rfl (qR rfl rfl rfl rfl (qS (qW [4] (e':=[(4,_)]) rfl ?_)))
   refine qQ (qJ (cC (qD (qD (cC (qD (cR rfl rfl (((i:Nat):Int)) (by first | rfl | (first | rfl | (congr 1;done) | (congr 1 <;> first | rfl | omega | (simp;done) | (simp;omega)))) (by exact ⟨fun _=>by omega,fun _=>⟨p,List.mem_of_getElem? hp,hbad⟩⟩) ?_)))))))
   exact Tf
  try simp only [Bool.and_eq_true,Bool.or_eq_true,Bool.not_eq_true',Bool.not_eq_false',Bool.and_eq_false_iff,Bool.or_eq_false_iff,decide_eq_true_eq,decide_eq_false_iff_not] at hbad
  have hgood:badP p=false:=by simpa using hbad
  refine qF (kK (qQ (qC (.q 0 (.q 1 (.done))) Kr ?_)))
  refine qN rfl rfl rfl rfl rfl (cV _ (by exact kG Om Om)) ?_
  refine qK rfl rfl rfl rfl (qS (qQ ?_))
  refine cQ (x:=i) (i+1) ?_ ?_ ?_ ?_
  · exact ⟨by omega,fun j q hj hq=>(by
        by_cases h:j=i
        · subst h;rw [hp] at hq;cases hq;exact hgood
        · exact hI j q Om hq)⟩
  · show n - (i+1) < n - i;omega
  · exact ⟨rfl,rfl,rfl,rfl,trivial⟩
  · (try simp only [List.cons_append,List.nil_append]);exact Tf
 refine cM (qZ (qZ (kV (qQ (qG (qC (.q 0 (.done)) Kr ?_))))))
 refine qR rfl rfl rfl rfl (qS (qW [4] (e':=[(4,_)]) rfl ?_))
 refine qQ (qJ ?_)
 refine cR rfl rfl ((-1)) (by first | rfl | (first | rfl | (congr 1;done) | (congr 1 <;> first | rfl | omega | (simp;done) | (simp;omega)))) (by exact ⟨fun h=>by
   obtain ⟨p,h1,h2⟩:=h
   obtain ⟨j,hj⟩:=List.getElem?_of_mem h1
   rw [hI j p (by have:=(List.getElem?_eq_some_iff.1 hj).1;omega) hj] at h2;exact absurd h2 (by decide),fun h=>by omega⟩) ?_
 exact Tf
theorem contains_spec (xs:List Int) (ao:Option Addr) (n c:Nat) (A:HProp) (hr:RdS A ao (xs.flatMap encZ)) (hn:xs.length=n) (hb:n≤4000000):Spec Try.prog 98 [.slice ao n c,.func (.func 99) #[] #[]] [A] (fun (_:Unit)=>.bool (decide (∃ p∈xs,badP p=true))) (fun _=>True) (fun _=>[A]):=by
 refine kP (n:=9) Try.func98 rfl rfl rfl ?_
 intro Γ w0
 simp only [argE,List.cons_append,List.nil_append,Nat.zero_add,Nat.reduceAdd]
 refine qG (qC (.q 0 (.done)) Kr ?_)
 refine qR rfl rfl rfl rfl (qS (qQ (qG (qC (.q 0 (.q 1 ((.l 2 [] (.q 3 (.q 4 (.done))))))) Kr ?_))))
 refine qK rfl rfl rfl rfl (qK rfl rfl rfl rfl ?_)
 have sp_1:=index_spec xs ao n c A (hr) Ln Om
 refine qM rfl rfl rfl rfl rfl rfl Try.call105 (sp_1) Ts ?_
 rintro r ⟨hr1,hr2⟩
 try simp only [List.cons_append,List.nil_append]
 refine qV (qN rfl rfl rfl rfl rfl (b_geq _ _ _ _) ?_)
 refine qR rfl rfl rfl rfl (qS (qW [4] (e':=[(4,_)]) rfl ?_))
 refine qQ (qJ (cR rfl rfl (()) (by congr 1;rw [decide_eq_decide];exact ⟨hr2,hr1⟩) (by trivial) ?_))
 exact Tf
theorem shape_spec (th va vo lk:Int) (pl:List Int) (ao:Option Addr) (n c:Nat) (A:HProp) (hr:RdS A ao (pl.flatMap encZ)) (hn:pl.length=n) (hb:n≤4000000):Spec Try.prog 71 [.agg #[.int .i64 th,.int .i64 va,.int .i64 vo,.int .i64 lk,.slice ao n c]] [A] (fun (_:Unit)=>.int .i64 (if OkS th va vo lk pl then 0 else 5)) (fun _=>True) (fun _=>[A]):=by
 refine kP (n:=37) Try.func71 rfl rfl rfl ?_
 intro Γ w0
 simp only [argE,List.cons_append,List.nil_append,Nat.zero_add,Nat.reduceAdd]
 refine qG (qC ((.l 0 [] (.q 1 (.done)))) Kr ?_)
 refine sX rfl rfl rfl rfl (us:=[_,_,_,_,_]) rfl ?_
 intro b1
 refine qV (qR rfl rfl rfl rfl (qS (qQ (qG (qG (qC (.q 0 (.q 1 (.q 2 (.q 3 (.q 4 (.q 5 (.q 6 (.q 7 (.q 8 (.q 9 (.q 10 (.q 11 (.q 12 (.q 13 (.q 14 (.q 15 (.q 16 (.q 17 (.q 18 (.q 19 (.q 20 (.q 21 (.q 22 (.q 23 (.q 24 (.q 25 (.q 26 (.q 27 (.q 28 (.q 29 (.q 30 (.done)))))))))))))))))))))))))))))))) Kr ?_))))))
 refine qL (k:=0) rfl rfl rfl rfl υ'25 rfl ζ'3 rfl ?_
 refine qP (j:=0) rfl rfl rfl rfl α'3 Tk Az (by rfl) ?_
 refine qN rfl rfl rfl rfl rfl (sK _ _ _ _) ?_
 refine qK rfl rfl rfl rfl ?_
 refine cL 6 rfl (fun h1=>?_) (fun h1=>?_)
 ·
  refine qY rfl rfl rfl rfl (qY rfl rfl rfl rfl (qY rfl rfl rfl rfl (kZ rfl rfl rfl rfl rfl (qK rfl rfl rfl rfl (qY rfl rfl rfl rfl (qY rfl rfl rfl rfl (qY rfl rfl rfl rfl (qY rfl rfl rfl rfl ?_))))))))
  refine qY rfl rfl rfl rfl (qY rfl rfl rfl rfl (qY rfl rfl rfl rfl (qY rfl rfl rfl rfl (kZ rfl rfl rfl rfl rfl (qK rfl rfl rfl rfl (qY rfl rfl rfl rfl (qY rfl rfl rfl rfl (qY rfl rfl rfl rfl ?_))))))))
  refine qY rfl rfl rfl rfl (qY rfl rfl rfl rfl (qY rfl rfl rfl rfl (qY rfl rfl rfl rfl (qY rfl rfl rfl rfl (qY rfl rfl rfl rfl (qY rfl rfl rfl rfl (qY rfl rfl rfl rfl (kZ rfl rfl rfl rfl rfl ?_))))))))
  refine qS (qW [1,33] (e':=[(1,_),(33,_)]) rfl ?_)
  refine qQ (cN rfl ?_)
  refine qG (qC (.q 0 (.done)) Kr ?_)
  refine qR rfl rfl rfl rfl (qS (qQ (qJ (qD (cR rfl rfl (()) (by rw [if_neg (fun h=>by have h1:=h.th;have h2:=h.va;have h3:=h.vo;have h4:=h.lk;have h5:=h.pl;omega)]) (by trivial) ?_)))))
  exact Tf
 refine qL (k:=0) rfl rfl rfl rfl υ'25 rfl ζ'3 rfl ?_
 refine qP (j:=0) rfl rfl rfl rfl α'3 Tk Az (by rfl) ?_
 refine qN rfl rfl rfl rfl rfl (b_gtr _ _ _ _) ?_
 refine kC rfl rfl rfl rfl rfl (qK rfl rfl rfl rfl ?_)
 refine cL 11 rfl (fun h2=>?_) (fun h2=>?_)
 ·
  refine qY rfl rfl rfl rfl (qY rfl rfl rfl rfl (qY rfl rfl rfl rfl (qY rfl rfl rfl rfl (qY rfl rfl rfl rfl (qY rfl rfl rfl rfl (qY rfl rfl rfl rfl (qY rfl rfl rfl rfl (kZ rfl rfl rfl rfl rfl ?_))))))))
  refine qK rfl rfl rfl rfl (qY rfl rfl rfl rfl (qY rfl rfl rfl rfl (qY rfl rfl rfl rfl (qY rfl rfl rfl rfl (qY rfl rfl rfl rfl (qY rfl rfl rfl rfl (qY rfl rfl rfl rfl (qY rfl rfl rfl rfl ?_))))))))
  refine qY rfl rfl rfl rfl (qY rfl rfl rfl rfl (qY rfl rfl rfl rfl (kZ rfl rfl rfl rfl rfl (qS (qW [1,33] (e':=[(1,_),(33,_)]) rfl ?_)))))
  refine qQ (cN rfl ?_)
  refine qG (qC (.q 0 (.done)) Kr ?_)
  refine qR rfl rfl rfl rfl (qS (qQ (qJ (qD (cR rfl rfl (()) (by rw [if_neg (fun h=>by have h1:=h.th;have h2:=h.va;have h3:=h.vo;have h4:=h.lk;have h5:=h.pl;omega)]) (by trivial) ?_)))))
  exact Tf
 refine qL (k:=1) rfl rfl rfl rfl υ'25 rfl ζ'3 rfl ?_
 refine qP (j:=1) rfl rfl rfl rfl α'3 Tk Az (by rfl) ?_
 refine qL (k:=2) rfl rfl rfl rfl υ'25 rfl ζ'3 rfl ?_
 refine qP (j:=2) rfl rfl rfl rfl α'3 Tk Az (by rfl) ?_
 refine qL (k:=3) rfl rfl rfl rfl υ'25 rfl ζ'3 rfl ?_
 refine qP (j:=3) rfl rfl rfl rfl α'3 Tk Az (by rfl) ?_
 refine q_min3 rfl rfl rfl rfl rfl rfl ?_
 refine qN rfl rfl rfl rfl rfl (sK _ _ _ _) ?_
 refine kC rfl rfl rfl rfl rfl (qK rfl rfl rfl rfl ?_)
 refine cL 21 rfl (fun h3=>?_) (fun h3=>?_)
 ·
  refine qY rfl rfl rfl rfl (qY rfl rfl rfl rfl (qY rfl rfl rfl rfl (qY rfl rfl rfl rfl (qY rfl rfl rfl rfl (qY rfl rfl rfl rfl (qY rfl rfl rfl rfl (qY rfl rfl rfl rfl (qY rfl rfl rfl rfl ?_))))))))
  refine qY rfl rfl rfl rfl (qY rfl rfl rfl rfl (kZ rfl rfl rfl rfl rfl (qS (qW [1,33] (e':=[(1,_),(33,_)]) rfl ?_))))
  refine qQ (cN rfl ?_)
  refine qG (qC (.q 0 (.done)) Kr ?_)
  refine qR rfl rfl rfl rfl (qS (qQ (qJ (qD (cR rfl rfl (()) (by rw [if_neg (fun h=>by have h1:=h.th;have h2:=h.va;have h3:=h.vo;have h4:=h.lk;have h5:=h.pl;omega)]) (by trivial) ?_)))))
  exact Tf
 refine qL (k:=1) rfl rfl rfl rfl υ'25 rfl ζ'3 rfl ?_
 refine qP (j:=1) rfl rfl rfl rfl α'3 Tk Az (by rfl) ?_
 refine qL (k:=2) rfl rfl rfl rfl υ'25 rfl ζ'3 rfl ?_
 refine qP (j:=2) rfl rfl rfl rfl α'3 Tk Az (by rfl) ?_
 refine qL (k:=3) rfl rfl rfl rfl υ'25 rfl ζ'3 rfl ?_
 refine qP (j:=3) rfl rfl rfl rfl α'3 Tk Az (by rfl) ?_
 refine qL (k:=4) rfl rfl rfl rfl υ'25 rfl ζ'23 rfl ?_
 refine qP (j:=4) rfl rfl rfl rfl α'23 Tk Az (by rfl) ?_
 refine cH rfl rfl rfl rfl υ'23 ?_
 refine q_max4 rfl rfl rfl rfl rfl rfl rfl ?_
 refine qN rfl rfl rfl rfl rfl (b_gtr _ _ _ _) ?_
 refine kC rfl rfl rfl rfl rfl (qS (qW [1,33] (e':=[(1,_),(33,_)]) rfl ?_))
 refine qQ ?_
 refine qB rfl (fun h4=>?_) (fun h4=>?_)
 ·
  refine qG (qC (.q 0 (.done)) Kr ?_)
  refine qR rfl rfl rfl rfl (qS (qQ (qJ (qD (cR rfl rfl (()) (by rw [if_neg (fun h=>by have h1:=h.th;have h2:=h.va;have h3:=h.vo;have h4:=h.lk;have h5:=h.pl;omega)]) (by trivial) ?_)))))
  exact Tf
 refine qF (qQ (qG (qG (qC (.q 0 (.q 1 ((.l 2 [] (.done))))) Kr ?_))))
 refine qL (k:=4) rfl rfl rfl rfl υ'25 rfl ζ'23 rfl ?_
 refine qP (j:=4) rfl rfl rfl rfl α'23 Tk Az (by rfl) ?_
 have sp_1:=contains_spec pl ao n c A (hr) Ln Om
 refine qM rfl rfl rfl rfl rfl rfl Try.call98 (sp_1) Ts ?_
 rintro ⟨⟩ -
 try simp only [List.cons_append,List.nil_append]
 refine qV (qS (qW [36] (e':=[(36,_)]) rfl ?_))
 refine qQ ?_
 refine qB rfl (fun hp=>?_) (fun hp=>?_)
 ·
  have hno:¬ OkS th va vo lk pl:=fun h=>by
    obtain ⟨p,q1,q2⟩:=hp
    rw [(okS_iff.1 h).2.2.2.2.2 p q1] at q2;cases q2
  refine qG (qC (.q 0 (.done)) Kr ?_)
  refine qR rfl rfl rfl rfl (qS (qQ (qJ (qD (cR rfl rfl (()) (by rw [if_neg hno]) (by trivial) ?_)))))
  exact Tf
 refine qF (qQ (qG (qC (.q 0 (.done)) Kr ?_)))
 refine qR rfl rfl rfl rfl (qS (qQ (qJ ?_)))
 refine cR rfl rfl (()) (by rw [if_pos (okS_iff.2 ⟨by omega,by omega,by omega,by omega,by omega,fun p q=>by
   cases h:badP p with
   | false=>rfl
   | true=>exact absurd ⟨p,q,h⟩ hp⟩)]) (by trivial) ?_
 exact Tf
end Go.Ab.Fe
set_option linter.unusedVariables false
set_option linter.unusedSimpArgs false
set_option maxRecDepth 100000
namespace Go.Ab.Fe
open Go Go.Proofs Go.Ab
theorem can_run {x:CS} {k t o:Int} (h:(stF x t).1=1) (h0:0≤o):canF x k t o↔okK x k t o:=by
  unfold canF;rw [h];simp [h0]
theorem can_not {x:CS} {k t o:Int} (h2:(stF x t).1≠2) (h:¬ (stF x t).1=1∨o < 0):¬ canF x k t o:=by
  unfold canF;rintro (⟨h3,-⟩ | ⟨h3,h4,-⟩)
  · exact h2 h3
  · omega
theorem can_wait {x:CS} {k t o:Int} (h2:(stF x t).1=2):canF x k t o↔(k=10∧o=(stF x t).2.1∧fullF x t):=by
  unfold canF;rw [h2];simp
theorem can_th {x:CS} {k t o:Int} (hc:canF x k t o):(stF x t).1≠0:=by
  rcases hc with ⟨h,-⟩ | ⟨h,-⟩ <;> omega
/-- What each kind asks. -/
theorem okK_k {x:CS} {k t o:Int} :
    ((k=1∨k=2)→(okK x k t o↔o < x.va))∧((k=3∨k=4)→(okK x k t o↔o < x.vo))∧(k=5→(okK x k t o↔o < x.lk∧owF x o=none))∧(k=6→(okK x k t o↔o < x.lk∧owF x o=some t)) ∧
    (k=7→(okK x k t o↔o < x.th∧(stF x o).1=0))∧(k=8→(okK x k t o↔o < x.th∧(stF x o).1=3))∧(k=9→(okK x k t o↔o < x.B.length))∧(k=11→(okK x k t o↔o < 1)) ∧
    (k≠1→k≠2→k≠3→k≠4→k≠5→k≠6→k≠7→k≠8→k≠9→k≠11→¬ okK x k t o):=by
  refine ⟨?_,?_,?_,?_,?_,?_,?_,?_,?_⟩
  · rintro (rfl | rfl) <;> simp [okK]
  · rintro (rfl | rfl) <;> simp [okK]
  · rintro rfl;simp [okK]
  · rintro rfl;simp [okK]
  · rintro rfl;simp [okK]
  · rintro rfl;simp [okK]
  · rintro rfl;simp [okK]
  · rintro rfl;simp [okK]
  · intro a1 a2 a3 a4 a5 a6 a7 a8 a9 a11 h
    simp [okK,a1,a2,a3,a4,a5,a6,a7,a8,a9,a11] at h
theorem nxF_k {x:CS} {k t o:Int} (hc:canF x k t o) :
    (k=5→nxF x k t o=⟨x.th,x.va,x.vo,x.lk,x.pa,x.T,x.O.set o.toNat t,x.B,x.n+1⟩) ∧
    (k=6→nxF x k t o=⟨x.th,x.va,x.vo,x.lk,x.pa,x.T,x.O.set o.toNat (-1),x.B,x.n+1⟩) ∧
    (k=7→nxF x k t o=⟨x.th,x.va,x.vo,x.lk,x.pa,x.T.set o.toNat (1,0,0),x.O,x.B,x.n+1⟩) ∧
    (k=9→nxF x k t o=⟨x.th,x.va,x.vo,x.lk,x.pa,x.T.set t.toNat (2,o,(opF x o).1),x.O,x.B.set o.toNat (arrF (opF x o) (x.pa.getD o.toNat 0)),x.n+1⟩) ∧
    (k=10→nxF x k t o=⟨x.th,x.va,x.vo,x.lk,x.pa,x.T.set t.toNat (1,0,0),x.O,x.B,x.n+1⟩) ∧
    (k=11→nxF x k t o=⟨x.th,x.va,x.vo,x.lk,x.pa,x.T.set t.toNat (3,0,0),x.O,x.B,x.n+1⟩) ∧
    (k≠5→k≠6→k≠7→k≠9→k≠10→k≠11→nxF x k t o=⟨x.th,x.va,x.vo,x.lk,x.pa,x.T,x.O,x.B,x.n+1⟩):=by
  rw [show nxF x k t o=nextF x k t o from if_pos hc]
  refine ⟨?_,?_,?_,?_,?_,?_,?_⟩
  · rintro rfl;simp [nextF]
  · rintro rfl;simp [nextF]
  · rintro rfl;simp [nextF]
  · rintro rfl;simp [nextF]
  · rintro rfl;simp [nextF]
  · rintro rfl;simp [nextF]
  · intro a b c d e f;simp [nextF,a,b,c,d,e,f]
theorem stF_set {x:CS} {T':List T3} {th va vo lk:Int} {pa O:List Int} {B:List T2} {n:Int} {t:Int} {s:T3} (h0:0≤t) (h:t.toNat < x.T.length) (hT:T'=x.T.set t.toNat s) (u:Int):stF ⟨th,va,vo,lk,pa,T',O,B,n⟩ u=if u=t then s else stF x u:=by
  subst hT
  unfold stF
  split
  · rename_i h1;rw [if_neg Om]
  · rename_i h1
    show (x.T.set t.toNat s).getD u.toNat _=_
    rw [getD_set h]
    by_cases e:u=t
    · subst e;rw [if_pos rfl,if_pos rfl]
    · rw [if_neg e,if_neg Om]
theorem owV_set {x:CS} {O':List Int} {th va vo lk:Int} {pa:List Int} {T:List T3} {B:List T2} {n:Int} {l:Int} {v:Int} (h0:0≤l) (h:l.toNat < x.O.length) (hO:O'=x.O.set l.toNat v) (u:Int):owV ⟨th,va,vo,lk,pa,T,O',B,n⟩ u=if u=l then v else owV x u:=by
  subst hO
  unfold owV
  split
  · rename_i h1;rw [if_neg Om]
  · rename_i h1
    show (x.O.set l.toNat v).getD u.toNat _=_
    rw [getD_set h]
    by_cases e:u=l
    · subst e;rw [if_pos rfl,if_pos rfl]
    · rw [if_neg e,if_neg Om]
theorem owF_set {x:CS} {O':List Int} {th va vo lk:Int} {pa:List Int} {T:List T3} {B:List T2} {n:Int} {l:Int} {v:Int} (h0:0≤l) (h:l.toNat < x.O.length) (hO:O'=x.O.set l.toNat v) (u:Int):owF ⟨th,va,vo,lk,pa,T,O',B,n⟩ u=if u=l then (if v=-1 then none else some v) else owF x u:=by
  unfold owF
  rw [owV_set h0 h hO]
  by_cases e:u=l
  · rw [if_pos e,if_pos e]
  · rw [if_neg e,if_neg e]
theorem rel_st {x:CS} {Fs:Int→Option T3} {Fo:Int→Option Int} (hR:RelC Fs Fo x) {t:Int} {s:T3} (h0:0≤t) (h:t.toNat < x.T.length) {th va vo lk:Int} {pa:List Int} {B:List T2} {n:Int}:RelC (upd Fs t (some s)) Fo ⟨th,va,vo,lk,pa,x.T.set t.toNat s,x.O,B,n⟩ :=
  ⟨fun u=>by
    rw [stF_set h0 h rfl]
    unfold upd
    split
    · rfl
    · exact hR.st u,fun l=>hR.ow l⟩
theorem rel_ow {x:CS} {Fs:Int→Option T3} {Fo:Int→Option Int} (hR:RelC Fs Fo x) {l v:Int} (h0:0≤l) (h:l.toNat < x.O.length) {th va vo lk:Int} {pa:List Int} {B:List T2} {n:Int}:RelC Fs (upd Fo l (if v=-1 then none else some v)) ⟨th,va,vo,lk,pa,x.T,x.O.set l.toNat v,B,n⟩ :=
  ⟨fun u=>hR.st u,fun u=>by
    rw [owF_set h0 h rfl]
    unfold upd
    split
    · rfl
    · exact hR.ow u⟩
theorem rel_n {x:CS} {Fs:Int→Option T3} {Fo:Int→Option Int} (hR:RelC Fs Fo x) {th va vo lk:Int} {pa:List Int} {B:List T2} {n:Int}:RelC Fs Fo ⟨th,va,vo,lk,pa,x.T,x.O,B,n⟩:=⟨hR.st,hR.ow⟩
theorem can_obj {x:CS} (hx:CInv x) {k t o:Int} (hc:canF x k t o):(k=5∨k=6→0≤o∧o.toNat < x.O.length)∧(k=7→0≤o∧o.toNat < x.T.length∧(stF x o).1=0)∧(k=9→0≤o∧o.toNat < x.B.length∧o.toNat < x.pa.length∧(stF x t).1=1)∧(k=10→(stF x t).1=2∧fullF x t∧o=(stF x t).2.1)∧(k=11→(stF x t).1=1):=by
  have h1:=hx.tl
  have h2:=hx.ol
  have h3:=hx.bl
  obtain ⟨k1,k2,k3,k4,k5,k6,k7,k8,k9⟩:=okK_k (x:=x) (k:=k) (t:=t) (o:=o)
  rcases hc with ⟨a,rfl,c,d⟩ | ⟨a,b,c⟩
  · exact ⟨fun h=>by omega,fun h=>by omega,fun h=>by omega,fun _=>⟨a,d,c⟩,fun h=>by omega⟩
  · refine ⟨?_,?_,?_,?_,fun _=>a⟩
    · rintro (h | h)
      · have:=(k3 h).1 c;omega
      · have:=(k4 h).1 c;omega
    · intro h;have:=(k5 h).1 c;exact ⟨b,by omega,this.2⟩
    · intro h;have:=(k7 h).1 c;exact ⟨b,by omega,by omega,a⟩
    · intro h;exact absurd c (k9 Om Om Om Om Om Om Om Om Om Om)
theorem new_inv {th va vo lk:Int} {pa:List Int} (h:OkS th va vo lk pa):CInv (newF th va vo lk pa):=by
  have h1:=h.th
  have h2:=h.lk
  have key:∀ s∈(newF th va vo lk pa).T,s=(1,0,0)∨s=(0,0,0):=fun s hs=>by
    rcases List.mem_or_eq_of_mem_set hs with h | h
    · exact .inr (List.mem_replicate.1 h).2
    · exact .inl h
  refine ⟨h,by simp [newF];omega,by simp [newF];omega,by simp [newF],?_,?_,?_,Int.le_refl _⟩
  · intro s hs
    rcases key s hs with rfl | rfl <;> simp
  · intro i o p ho hp
    have:o=(0,0):=(List.mem_replicate.1 (List.mem_of_getElem? ho)).2
    subst this
    have:=h.pa p (List.mem_of_getElem? hp)
    simp [newF];omega
  · intro v hv
    exact .inl (List.mem_replicate.1 hv).2
theorem opF_set {x:CS} {b:Int} {q:T2} (hb:b.toNat < x.B.length) {th va vo lk:Int} {pa O:List Int} {T:List T3} {n:Int} (u:Int):opF ⟨th,va,vo,lk,pa,T,O,x.B.set b.toNat q,n⟩ u=if u.toNat=b.toNat then q else opF x u:=by
  unfold opF
  exact getD_set hb
/-- What holds stays. -/
theorem next_inv {x:CS} (hx:CInv x) (k t o:Int):CInv (nxF x k t o):=by
  by_cases hc:canF x k t o
  · obtain ⟨n5,n6,n7,n9,n10,n11,nn⟩:=nxF_k hc
    obtain ⟨o5,o7,o9,o10,o11⟩:=can_obj hx hc
    obtain ⟨t0,t1,t2⟩:=stF_nz (can_th hc)
    have hst:=stF_inv hx t
    have hn:=hx.n0
    have hop:∀ (i:Nat) (o:T2) (p:Int),x.B[i]?=some o→x.pa[i]?=some p→0≤o.1∧o.1≤x.n+1∧0≤o.2∧o.2 < p:=fun i o p h1 h2=>by have:=hx.op i o p h1 h2;omega
    have hstk:∀ (s:T3) (y:CS),y.B=x.B→s∈x.T→0≤s.1∧s.1≤3∧(s.1=2→0≤s.2.1∧s.2.1 < y.B.length∧0≤s.2.2∧s.2.2≤(opF y s.2.1).1)∧(s.1≠2→s.2=(0,0)):=fun s y hy hs=>by
      have:=hx.st s hs
      rw [hy,show opF y s.2.1=opF x s.2.1 by unfold opF;rw [hy]];exact this
    have how:∀ (t':Int) (s:T3),0≤t'→t'.toNat < x.T.length→s.1≠0→∀ {pa:List Int} {B:List T2} {n:Int},∀ v∈x.O,v=-1∨(stF ⟨x.th,x.va,x.vo,x.lk,pa,x.T.set t'.toNat s,x.O,B,n⟩ v).1≠0:=fun t' s h1 h2 h3 pa B n v hv=>by
      rw [stF_set h1 h2 rfl]
      split
      · exact .inr h3
      · exact hx.ow v hv
    by_cases k5:k=5
    · obtain ⟨a,b⟩:=o5 (.inl k5)
      rw [n5 k5]
      refine ⟨hx.sh,hx.tl,by show ((x.O.set _ _).length:Int)=_;rw [List.length_set];exact hx.ol,hx.bl,fun s hs=>hstk s _ rfl hs,hop,fun v hv=>?_,by show 0≤x.n+1;omega⟩
      rcases List.mem_or_eq_of_mem_set hv with h | rfl
      · exact hx.ow v h
      · exact .inr (can_th (x:=x) hc)
    by_cases k6:k=6
    · obtain ⟨a,b⟩:=o5 (.inr k6)
      rw [n6 k6]
      refine ⟨hx.sh,hx.tl,by show ((x.O.set _ _).length:Int)=_;rw [List.length_set];exact hx.ol,hx.bl,fun s hs=>hstk s _ rfl hs,hop,fun v hv=>?_,by show 0≤x.n+1;omega⟩
      rcases List.mem_or_eq_of_mem_set hv with h | rfl
      · exact hx.ow v h
      · exact .inl rfl
    have hsetT:∀ (t':Int) (s:T3),0≤t'→t'.toNat < x.T.length→s.1≠0→(0≤s.1∧s.1≤3∧s.1≠2∧s.2=(0,0))→CInv ⟨x.th,x.va,x.vo,x.lk,x.pa,x.T.set t'.toNat s,x.O,x.B,x.n+1⟩:=fun t' s h1 h2 h3 h4=>by
      refine ⟨hx.sh,by show ((x.T.set _ _).length:Int)=_;rw [List.length_set];exact hx.tl,hx.ol,hx.bl,fun q hq=>?_,hop,how t' s h1 h2 h3,by show 0≤x.n+1;omega⟩
      rcases List.mem_or_eq_of_mem_set hq with h | rfl
      · exact hstk q _ rfl h
      · exact ⟨h4.1,h4.2.1,fun e=>absurd e h4.2.2.1,fun _=>h4.2.2.2⟩
    by_cases k7:k=7
    · obtain ⟨a,b,c⟩:=o7 k7
      rw [n7 k7]
      exact hsetT o (1,0,0) a b (by decide) (by decide)
    by_cases k10:k=10
    · rw [n10 k10];exact hsetT t (1,0,0) t0 t1 (by decide) (by decide)
    by_cases k11:k=11
    · rw [n11 k11];exact hsetT t (3,0,0) t0 t1 (by decide) (by decide)
    by_cases k9:k=9
    · obtain ⟨a,b,c,d⟩:=o9 k9
      rw [n9 k9]
      have hbo:=opF_at (x:=x) a Om
      obtain ⟨p,hp⟩:=cP c
      rw [getD_some hp]
      have hbp:=hx.op _ _ _ hbo hp
      have hpp:=hx.sh.pa p (List.mem_of_getElem? hp)
      have har:(arrF (opF x o) p).1=(opF x o).1∨(arrF (opF x o) p).1=(opF x o).1+1:=by unfold arrF;split <;> simp
      have har2:0≤(arrF (opF x o) p).2∧(arrF (opF x o) p).2 < p:=by unfold arrF;split <;> simp <;> omega
      refine ⟨hx.sh,by show ((x.T.set _ _).length:Int)=_;rw [List.length_set];exact hx.tl,hx.ol,by show (x.B.set _ _).length=_;rw [List.length_set];exact hx.bl,fun q hq=>?_,fun i q r hi hr=>?_,how t _ t0 t1 (by show (2:Int)≠0;decide),by show 0≤x.n+1;omega⟩
      · rw [opF_set b]
        show _∧_∧(_→_∧q.2.1 < ((x.B.set _ _).length:Int)∧_)∧_
        rw [List.length_set]
        rcases List.mem_or_eq_of_mem_set hq with h | rfl
        · have h1:=hx.st q h
          refine ⟨h1.1,h1.2.1,fun e=>?_,h1.2.2.2⟩
          have h2:=h1.2.2.1 e
          refine ⟨h2.1,h2.2.1,h2.2.2.1,?_⟩
          split
          · rename_i e2
            have:opF x q.2.1=opF x o:=by unfold opF;rw [e2]
            rw [this] at h2;omega
          · exact h2.2.2.2
        · refine ⟨(by decide:(0:Int)≤2),(by decide:(2:Int)≤3),fun _=>⟨a,by show o < _;omega,hbp.1,?_⟩,fun e=>absurd rfl e⟩
          rw [if_pos rfl];show (opF x o).1≤_;omega
      · have hi':(x.B.set o.toNat (arrF (opF x o) p))[i]?=some q:=hi
        show 0≤q.1∧q.1≤x.n+1∧_
        rw [List.getElem?_set] at hi'
        split at hi'
        · rename_i e;subst e
          cases hi'
          have hr':x.pa[o.toNat]?=some r:=hr
          rw [hp] at hr';cases hr'
          omega
        · exact hop i q r hi' hr
    · rw [nn k5 k6 k7 k9 k10 k11]
      exact ⟨hx.sh,hx.tl,hx.ol,hx.bl,fun s hs=>hstk s _ rfl hs,hop,hx.ow,by show 0≤x.n+1;omega⟩
  · rw [show nxF x k t o=x from if_neg hc];exact hx
theorem full_spec (pa:Option Addr) (pc b:Nat) (x:CS) (hx:CInv x) (t:Int):Spec Try.prog 82 [.pointer (some ⟨b,0,none⟩),.int .i64 t] [ck pa pc b x] (fun (_:Unit)=>.bool (decide (fullF x t))) (fun _=>True) (fun _=>[ck pa pc b x]):=by
 refine kP (n:=31) Try.func82 rfl rfl rfl ?_
 intro Γ w0
 simp only [argE,List.cons_append,List.nil_append,Nat.zero_add,Nat.reduceAdd]
 refine qG (qC (.q 0 (.done)) Kr ?_)
 refine qR rfl rfl rfl rfl (qS (qQ (qG (qG (qC (.q 0 ((.l 1 [] (.done)))) Kr ?_)))))
 refine qK rfl rfl rfl rfl ?_
 have sp_1:=none_spec pa pc b x
 refine qM rfl rfl rfl rfl rfl rfl κ'80 (sp_1) Ts ?_
 rintro ⟨⟩ -
 try simp only [List.cons_append,List.nil_append]
 refine qV (qS (qQ (kB rfl ?_)))
 refine qF (qQ (qG (cK (A:=ck pa pc b x) Tk ?_)))
 refine ck_open fun m1 m2 Fs Fo oa oc hR=>?_
 refine qC (.q 0 (.q 1 (.q 2 (.q 3 (.q 4 (.q 5 ((.l 6 [] ((.l 7 [] (.done))))))))))) Kr ?_
 refine qK rfl rfl rfl rfl (qX rfl rfl rfl rfl (qL (k:=5) rfl rfl rfl rfl υ'146 rfl ζ'142 rfl ?_))
 refine qP (j:=5) rfl rfl rfl rfl α'142 Tk Az (by rfl) ?_
 refine qK rfl rfl rfl rfl (sL (ek:=ekZ) (ev1:=ev3) (F:=Fs) (m:=m1) (k:=t) (0,0,0) rfl rfl rfl rfl rfl υ'142 (cW υ'3) ω'107 Tk ?_)
 refine kH 13 rfl (v':=.agg #[.int .i64 ((stF x t).1),.int .i64 ((stF x t).2.1),.int .i64 ((stF x t).2.2)]) (by rw [hR.st]) ?_
 refine cF rfl rfl rfl ω'107 (zs:=[.int .i64 0,.int .i64 0,.int .i64 0]) rfl ?_
 intro b5
 refine qV (kR (j:=0) rfl rfl rfl rfl ζ'107 (us:=[_,_,_]) rfl rfl rfl Tk Az (by first | decide | (simp;done) | omega) ?_)
 simp only [setL,List.set]
 refine qV (qS (qW [0,5] (e':=[(0,_),(5,_)]) rfl ?_))
 refine qQ (qG (kX rfl (.q 0 (.q 1 (.q 2 (.q 3 (.q 4 (.q 5 (.q 6 (.q 7 (.q 8 (.q 9 (.q 10 (.q 11 (.q 12 (.q 13 (.q 14 (.q 15 (.q 16 (.q 17 (.done))))))))))))))))))) Kr ?_))
 refine qL (k:=0) rfl rfl rfl rfl υ'107 rfl ζ'105 rfl ?_
 refine qP (j:=0) rfl rfl rfl rfl α'105 Tk Az (by rfl) ?_
 refine qN rfl rfl rfl rfl rfl (cS _ _ _ _) ?_
 refine qK rfl rfl rfl rfl ?_
 refine cL 17 rfl (fun h2=>?_) (fun h2=>?_)
 ·
  have hsi:=(stF_inv hx t).2.2.1 h2
  have hop:=opF_at hsi.1 hsi.2.1
  refine qL (k:=2) rfl rfl rfl rfl υ'107 rfl ζ'3 rfl ?_
  refine qP (j:=2) rfl rfl rfl rfl α'3 Tk Az (by rfl) ?_
  refine qK rfl rfl rfl rfl (qX rfl rfl rfl rfl (qL (k:=7) rfl rfl rfl rfl υ'146 rfl ζ'144 rfl ?_))
  refine qP (j:=7) rfl rfl rfl rfl α'144 Tk Az (by rfl) ?_
  refine qL (k:=1) rfl rfl rfl rfl υ'107 rfl ζ'3 rfl ?_
  refine qP (j:=1) rfl rfl rfl rfl α'3 Tk Az (by rfl) ?_
  refine kY (sz:=1) (k:=(stF x t).2.1.toNat) (enc:=enc2) (xs:=x.B) rfl rfl rfl rfl rfl υ'144 ζ'153 hop (by first | rfl | omega) Om Tk ?_
  intro ib26 io26 ha26 hl26 hc26
  refine qL (k:=0) rfl rfl rfl rfl υ'153 rfl ζ'3 rfl ?_
  refine kQ (v:=(.int .i64 ((opF x (stF x t).2.1).1))) (j:=0) (k':=(stF x t).2.1.toNat) (enc:=enc2) (off:=io26) rfl rfl rfl rfl α'3 ha26 enc2_len hop Tk (by first | rfl | exact (Nat.add_zero _).symm | omega) (by rfl) ?_
  refine qN rfl rfl rfl rfl rfl (sK _ _ _ _) ?_
  refine kZ rfl rfl rfl rfl rfl (qR rfl rfl rfl rfl (qS (qW [4] (e':=[(4,_)]) rfl ?_)))
  refine qQ (qJ (ck_fold (b:=b) x (pa:=pa) (pc:=pc) (m1:=m1) (m2:=m2) (oa:=oa) (oc:=oc) Ts (by rfl) (by rfl) (hR) ?_))
  refine cR rfl rfl (()) (by congr 1;first | (rw [decide_eq_decide];simp [fullF,h2];done) | (symm;rw [decide_eq_false_iff_not];simp [fullF,h2])) (by trivial) ?_
  exact Tf
 refine qY rfl rfl rfl rfl (qY rfl rfl rfl rfl (qY rfl rfl rfl rfl (qY rfl rfl rfl rfl (qY rfl rfl rfl rfl (qY rfl rfl rfl rfl (qY rfl rfl rfl rfl (qY rfl rfl rfl rfl (qY rfl rfl rfl rfl ?_))))))))
 refine qY rfl rfl rfl rfl (qY rfl rfl rfl rfl (qY rfl rfl rfl rfl (kC rfl rfl rfl rfl rfl (qR rfl rfl rfl rfl (qS (qW [4] (e':=[(4,_)]) rfl ?_))))))
 refine qQ (qJ (ck_fold (b:=b) x (pa:=pa) (pc:=pc) (m1:=m1) (m2:=m2) (oa:=oa) (oc:=oc) Ts (by rfl) (by rfl) (hR) ?_))
 refine cR rfl rfl (()) (by congr 1;first | (rw [decide_eq_decide];simp [fullF,h2];done) | (symm;rw [decide_eq_false_iff_not];simp [fullF,h2])) (by trivial) ?_
 exact Tf
theorem can_spec (pa:Option Addr) (pc b:Nat) (x:CS) (hx:CInv x) (k t o:Int):Spec Try.prog 47 [.pointer (some ⟨b,0,none⟩),.agg #[.int .i64 k,.int .i64 t,.int .i64 o]] [ck pa pc b x] (fun (_:Unit)=>.bool (decide (canF x k t o))) (fun _=>True) (fun _=>[ck pa pc b x]):=by
 refine kP (n:=139) Try.func47 rfl rfl rfl ?_
 intro Γ w0
 simp only [argE,List.cons_append,List.nil_append,Nat.zero_add,Nat.reduceAdd]
 refine qG (qC ((.l 0 [] (.q 1 (.done)))) Kr ?_)
 refine sX rfl rfl rfl rfl (us:=[_,_,_]) rfl ?_
 intro b3
 refine qV (qR rfl rfl rfl rfl (qS (qQ (qG (qG (qC (.q 0 ((.l 1 [] (.done)))) Kr ?_))))))
 refine qK rfl rfl rfl rfl ?_
 have sp_1:=none_spec pa pc b x
 refine qM rfl rfl rfl rfl rfl rfl κ'80 (sp_1) Ts ?_
 rintro ⟨⟩ -
 try simp only [List.cons_append,List.nil_append]
 refine qV (qS (qQ (kB rfl ?_)))
 refine qF (qQ (qG (cK (A:=ck pa pc b x) Tk ?_)))
 refine ck_open fun m1 m2 Fs Fo oa oc hR=>?_
 refine kX rfl (.q 0 (.q 1 (.q 2 (.q 3 (.q 4 (.q 5 (.q 6 ((.l 7 [3,5,6] ((.l 8 [] (.done)))))))))))) Kr ?_
 refine qK rfl rfl rfl rfl (qX rfl rfl rfl rfl (qL (k:=5) rfl rfl rfl rfl υ'146 rfl ζ'142 rfl ?_))
 refine qP (j:=5) rfl rfl rfl rfl α'142 Tk Az (by rfl) ?_
 refine qL (k:=1) rfl rfl rfl rfl υ'36 rfl ζ'3 rfl ?_
 refine qP (j:=1) rfl rfl rfl rfl α'3 Tk Az (by rfl) ?_
 refine sL (ek:=ekZ) (ev1:=ev3) (F:=Fs) (m:=m1) (k:=t) (0,0,0) rfl rfl rfl rfl rfl υ'142 (cW υ'3) ω'107 Tk ?_
 refine kH 18 rfl (v':=.agg #[.int .i64 ((stF x t).1),.int .i64 ((stF x t).2.1),.int .i64 ((stF x t).2.2)]) (by rw [hR.st]) ?_
 refine cF rfl rfl rfl ω'107 (zs:=[.int .i64 0,.int .i64 0,.int .i64 0]) rfl ?_
 intro b5
 refine qH (q:=5) rfl rfl rfl α'142 Tk Az (by rfl) ?_
 refine qH (q:=1) rfl rfl rfl α'3 Tk Az (by rfl) ?_
 refine ag_lookup1 (ek:=ekZ) (ev1:=ev3) (F:=Fs) (m:=m1) (k:=t) (0,0,0) rfl rfl (by first | rfl | (rw [hR.st])) rfl rfl υ'142 (cW υ'3) ω'107 Tk ?_
 refine qV (kR (j:=0) rfl rfl rfl rfl ζ'107 (us:=[_,_,_]) rfl rfl rfl Tk Az (by first | decide | (simp;done) | omega) ?_)
 simp only [setL,List.set]
 refine qV (qS (qW [0,3,5] (e':=[(0,_),(3,_),(5,_)]) rfl ?_))
 refine qQ (qG (qG (qC (.q 0 (.q 1 (.q 2 (.done)))) Kr ?_)))
 refine qL (k:=0) rfl rfl rfl rfl υ'107 rfl ζ'105 rfl ?_
 refine qP (j:=0) rfl rfl rfl rfl α'105 Tk Az (by rfl) ?_
 refine qN rfl rfl rfl rfl rfl (cS _ _ _ _) ?_
 refine qS (qQ ?_)
 refine qB rfl (fun h2=>?_) (fun h2=>?_)
 ·
  refine qG (qC (.q 0 (.q 1 (.q 2 (.q 3 (.q 4 (.q 5 (.q 6 (.q 7 (.q 8 (.q 9 (.q 10 (.q 11 (.q 12 (.q 13 ((.l 14 [] (.q 15 (.q 16 (.done))))))))))))))))))) Kr ?_)
  refine qL (k:=0) rfl rfl rfl rfl υ'36 rfl ζ'34 rfl ?_
  refine qP (j:=0) rfl rfl rfl rfl α'34 Tk Az (by rfl) ?_
  refine qN rfl rfl rfl rfl rfl (cS _ _ _ _) ?_
  refine qK rfl rfl rfl rfl ?_
  refine cL 25 rfl (fun h10=>?_) (fun h10=>?_)
  ·
   refine qL (k:=2) rfl rfl rfl rfl υ'36 rfl ζ'3 rfl ?_
   refine qP (j:=2) rfl rfl rfl rfl α'3 Tk Az (by rfl) ?_
   refine qL (k:=1) rfl rfl rfl rfl υ'107 rfl ζ'3 rfl ?_
   refine qP (j:=1) rfl rfl rfl rfl α'3 Tk Az (by rfl) ?_
   refine qN rfl rfl rfl rfl rfl (cS _ _ _ _) ?_
   refine kZ rfl rfl rfl rfl rfl (qK rfl rfl rfl rfl ?_)
   refine cL 32 rfl (fun hob=>?_) (fun hob=>?_)
   ·
    refine qK rfl rfl rfl rfl (qL (k:=1) rfl rfl rfl rfl υ'36 rfl ζ'3 rfl ?_)
    refine qP (j:=1) rfl rfl rfl rfl α'3 Tk Az (by rfl) ?_
    refine ck_fold (b:=b) x (pa:=pa) (pc:=pc) (m1:=m1) (m2:=m2) (oa:=oa) (oc:=oc) Ts (by rfl) (by rfl) (hR) ?_
    have sp_2:=full_spec pa pc b x hx t
    refine qM rfl rfl rfl rfl rfl rfl Try.call82 (sp_2) Ts ?_
    rintro ⟨⟩ -
    try simp only [List.cons_append,List.nil_append]
    refine qV (cK (A:=ck pa pc b x) Tk ?_)
    refine ck_open fun m1 m2 Fs Fo oa oc hR=>?_
    refine kZ rfl rfl rfl rfl rfl (qR rfl rfl rfl rfl (qS (qW [4] (e':=[(4,_)]) rfl ?_)))
    refine qQ (qJ (qD (ck_fold (b:=b) x (pa:=pa) (pc:=pc) (m1:=m1) (m2:=m2) (oa:=oa) (oc:=oc) Ts (by rfl) (by rfl) (hR) ?_)))
    refine cR rfl rfl (()) (by congr 1;first | (rw [decide_eq_decide,can_wait h2];simp_all;done) | (symm;rw [decide_eq_false_iff_not,can_wait h2];simp_all)) (by trivial) ?_
    exact Tf
   refine qY rfl rfl rfl rfl (qY rfl rfl rfl rfl (qY rfl rfl rfl rfl (sZ rfl rfl rfl rfl ?_)))
   refine kC rfl rfl rfl rfl rfl (qR rfl rfl rfl rfl (qS (qW [4] (e':=[(4,_)]) rfl ?_)))
   refine qQ (qJ (qD (ck_fold (b:=b) x (pa:=pa) (pc:=pc) (m1:=m1) (m2:=m2) (oa:=oa) (oc:=oc) Ts (by rfl) (by rfl) (hR) ?_)))
   refine cR rfl rfl (()) (by congr 1;first | (rw [decide_eq_decide,can_wait h2];simp_all;done) | (symm;rw [decide_eq_false_iff_not,can_wait h2];simp_all)) (by trivial) ?_
   exact Tf
  refine qY rfl rfl rfl rfl (qY rfl rfl rfl rfl (qY rfl rfl rfl rfl (qY rfl rfl rfl rfl (qY rfl rfl rfl rfl (kC rfl rfl rfl rfl rfl (qK rfl rfl rfl rfl (qY rfl rfl rfl rfl (qY rfl rfl rfl rfl ?_))))))))
  refine qY rfl rfl rfl rfl (sZ rfl rfl rfl rfl ?_)
  refine kC rfl rfl rfl rfl rfl (qR rfl rfl rfl rfl (qS (qW [4] (e':=[(4,_)]) rfl ?_)))
  refine qQ (qJ (qD (ck_fold (b:=b) x (pa:=pa) (pc:=pc) (m1:=m1) (m2:=m2) (oa:=oa) (oc:=oc) Ts (by rfl) (by rfl) (hR) ?_)))
  refine cR rfl rfl (()) (by congr 1;first | (rw [decide_eq_decide,can_wait h2];simp_all;done) | (symm;rw [decide_eq_false_iff_not,can_wait h2];simp_all)) (by trivial) ?_
  exact Tf
 refine qF (qQ (qG (qG (qC (.q 0 (.q 1 (.q 2 (.q 3 (.q 4 (.q 5 (.q 6 (.q 7 (.done))))))))) Kr ?_))))
 refine qL (k:=0) rfl rfl rfl rfl υ'107 rfl ζ'105 rfl ?_
 refine qP (j:=0) rfl rfl rfl rfl α'105 Tk Az (by rfl) ?_
 refine qN rfl rfl rfl rfl rfl (b_neq _ _ _ _) ?_
 refine qK rfl rfl rfl rfl ?_
 refine cL 41 rfl (fun h3=>?_) (fun h3=>?_)
 ·
  refine qY rfl rfl rfl rfl (qY rfl rfl rfl rfl (qY rfl rfl rfl rfl (kZ rfl rfl rfl rfl rfl (qS (qW [0,3,45] (e':=[(0,_),(3,_),(45,_)]) rfl ?_)))))
  refine qQ (cN rfl ?_)
  refine qG (qC (.q 0 (.done)) Kr ?_)
  refine qR rfl rfl rfl rfl (qS (qQ (qJ (qD (ck_fold (b:=b) x (pa:=pa) (pc:=pc) (m1:=m1) (m2:=m2) (oa:=oa) (oc:=oc) Ts (by rfl) (by rfl) (hR) ?_)))))
  refine cR rfl rfl (()) (by congr 1;symm;rw [decide_eq_false_iff_not];exact can_not h2 (by first | omega | (simp at h1;omega))) (by trivial) ?_
  exact Tf
 refine qL (k:=2) rfl rfl rfl rfl υ'36 rfl ζ'3 rfl ?_
 refine qP (j:=2) rfl rfl rfl rfl α'3 Tk Az (by rfl) ?_
 refine qN rfl rfl rfl rfl rfl (sK _ _ _ _) ?_
 refine kC rfl rfl rfl rfl rfl (qS (qW [0,3,45] (e':=[(0,_),(3,_),(45,_)]) rfl ?_))
 refine qQ ?_
 refine qB rfl (fun h1=>?_) (fun h1=>?_)
 ·
  refine qG (qC (.q 0 (.done)) Kr ?_)
  refine qR rfl rfl rfl rfl (qS (qQ (qJ (qD (ck_fold (b:=b) x (pa:=pa) (pc:=pc) (m1:=m1) (m2:=m2) (oa:=oa) (oc:=oc) Ts (by rfl) (by rfl) (hR) ?_)))))
  refine cR rfl rfl (()) (by congr 1;symm;rw [decide_eq_false_iff_not];exact can_not h2 (by first | omega | (simp at h1;omega))) (by trivial) ?_
  exact Tf
 have h1:(stF x t).1=1∧0≤o:=by first | omega | (simp at h1;omega)
 refine qF (qQ (qG (kX rfl (.q 0 (.q 1 (.q 2 (.q 3 (.q 4 (.q 5 (.q 6 (.q 7 (.q 8 (.q 9 (.q 10 (.q 11 (.done))))))))))))) Kr ?_)))
 refine qK rfl rfl rfl rfl (qX rfl rfl rfl rfl (qL (k:=6) rfl rfl rfl rfl υ'146 rfl ζ'143 rfl ?_))
 refine qP (j:=6) rfl rfl rfl rfl α'143 Tk Az (by rfl) ?_
 refine qL (k:=2) rfl rfl rfl rfl υ'36 rfl ζ'3 rfl ?_
 refine qP (j:=2) rfl rfl rfl rfl α'3 Tk Az (by rfl) ?_
 refine q_lookup2 (ek:=ekZ) (ev1:=ekZ) (F:=Fo) (m:=m2) (k:=o) 0 rfl rfl rfl rfl rfl υ'143 (cW υ'3) ω'3 Tk ?_
 refine kH 53 rfl (v':=.tuple #[.int .i64 ((owF x o).getD 0),.bool ((owF x o).isSome)]) (by rw [hR.ow]) ?_
 refine qK rfl rfl rfl rfl (kW rfl rfl rfl rfl rfl (kW rfl rfl rfl rfl rfl (qR rfl rfl rfl rfl (qR rfl rfl rfl rfl (qS (qW [0,3,6,7] (e':=[(0,_),(3,_),(6,_),(7,_)]) rfl ?_))))))
 refine qQ (qG (kX rfl (.q 0 (.q 1 (.q 2 (.q 3 (.q 4 (.q 5 (.q 6 ((.l 7 [3,5,6] ((.l 8 [] (.done)))))))))))) Kr ?_))
 refine qK rfl rfl rfl rfl (qX rfl rfl rfl rfl (qL (k:=5) rfl rfl rfl rfl υ'146 rfl ζ'142 rfl ?_))
 refine qP (j:=5) rfl rfl rfl rfl α'142 Tk Az (by rfl) ?_
 refine qL (k:=2) rfl rfl rfl rfl υ'36 rfl ζ'3 rfl ?_
 refine qP (j:=2) rfl rfl rfl rfl α'3 Tk Az (by rfl) ?_
 refine sL (ek:=ekZ) (ev1:=ev3) (F:=Fs) (m:=m1) (k:=o) (0,0,0) rfl rfl rfl rfl rfl υ'142 (cW υ'3) ω'107 Tk ?_
 refine kH 62 rfl (v':=.agg #[.int .i64 ((stF x o).1),.int .i64 ((stF x o).2.1),.int .i64 ((stF x o).2.2)]) (by rw [hR.st]) ?_
 refine cF rfl rfl rfl ω'107 (zs:=[.int .i64 0,.int .i64 0,.int .i64 0]) rfl ?_
 intro b8
 refine qH (q:=5) rfl rfl rfl α'142 Tk Az (by rfl) ?_
 refine qH (q:=2) rfl rfl rfl α'3 Tk Az (by rfl) ?_
 refine ag_lookup1 (ek:=ekZ) (ev1:=ev3) (F:=Fs) (m:=m1) (k:=o) (0,0,0) rfl rfl (by first | rfl | (rw [hR.st])) rfl rfl υ'142 (cW υ'3) ω'107 Tk ?_
 refine qV (kR (j:=0) rfl rfl rfl rfl ζ'107 (us:=[_,_,_]) rfl rfl rfl Tk Az (by first | decide | (simp;done) | omega) ?_)
 simp only [setL,List.set]
 refine qV (qS (qW [0,3,6,7,8] (e':=[(0,_),(3,_),(6,_),(7,_),(8,_)]) rfl ?_))
 refine qQ (qG (qC (.q 0 (.done)) Kr ?_))
 refine qR rfl rfl rfl rfl (qS (qQ (qG (qG (qC (.q 0 (.q 1 (.done))) Kr ?_)))))
 refine qL (k:=0) rfl rfl rfl rfl υ'36 rfl ζ'34 rfl ?_
 refine qP (j:=0) rfl rfl rfl rfl α'34 Tk Az (by rfl) ?_
 refine qS (qQ (kS (qG (kS (qG (kS (qG (kS ?_))))))))
 refine qG (kS (qG (kS (qG (kS (qG (kS (kS ?_))))))))
 refine qG (kS (kS (qG (qG (qG (qC (.q 0 (.q 1 (.done))) Kr ?_))))))
 refine qN rfl rfl rfl rfl rfl (cS _ _ _ _) ?_
 refine qR rfl rfl rfl rfl (qS (qQ ?_))
 refine qB rfl (fun k2=>?_) (fun k2=>?_)
 ·
  refine cM (qZ (qZ (kV (kK (qQ (qG (qC (.q 0 (.q 1 (.q 2 (.q 3 (.q 4 (.q 5 (.done))))))) Kr ?_)))))))
  refine qK rfl rfl rfl rfl (qX rfl rfl rfl rfl (qL (k:=0) rfl rfl rfl rfl υ'146 rfl ζ'25 rfl ?_))
  refine qL (k:=1) rfl rfl rfl rfl υ'25 rfl ζ'3 rfl ?_
  refine qP (j:=1) rfl rfl rfl rfl α'3 Tk Az (by rfl) ?_
  refine qR rfl rfl rfl rfl (qS (qW [3,9] (e':=[(3,_),(9,_)]) rfl ?_))
  refine qQ (cM (kL rfl ?_))
  refine kL rfl ?_
  refine qZ (kL rfl ?_)
  refine qZ (kL rfl ?_)
  refine qZ (kL rfl ?_)
  refine qZ (kL rfl ?_)
  refine qZ (kL rfl ?_)
  refine qZ (kL rfl ?_)
  refine qZ (kV (qQ (qG (qC (.q 0 (.q 1 (.q 2 (.q 3 (.q 4 (.done)))))) Kr ?_))))
  refine qL (k:=2) rfl rfl rfl rfl υ'36 rfl ζ'3 rfl ?_
  refine qP (j:=2) rfl rfl rfl rfl α'3 Tk Az (by rfl) ?_
  refine qK rfl rfl rfl rfl (qN rfl rfl rfl rfl rfl (sK _ _ _ _) ?_)
  refine qR rfl rfl rfl rfl (qS (qW [4] (e':=[(4,_)]) rfl ?_))
  refine qQ (qJ (ck_fold (b:=b) x (pa:=pa) (pc:=pc) (m1:=m1) (m2:=m2) (oa:=oa) (oc:=oc) Ts (by rfl) (by rfl) (hR) ?_))
  refine cR rfl rfl (()) (by congr 1;rw [decide_eq_decide,can_run h1.1 h1.2,okK_k.1 (.inr k2)];try rfl) (by trivial) ?_
  exact Tf
 refine qF (qQ (qG (qG (qC (.q 0 (.q 1 (.done))) Kr ?_))))
 refine qN rfl rfl rfl rfl rfl (cS _ _ _ _) ?_
 refine qR rfl rfl rfl rfl (qS (qW [0,3,6,7,8,9,64,67] (e':=[(0,_),(3,_),(6,_),(7,_),(8,_),(9,_),(64,_),(67,_)]) rfl ?_))
 refine qQ ?_
 refine qB rfl (fun k1=>?_) (fun k1=>?_)
 ·
  refine cM (qZ (qZ (kL rfl ?_)))
  refine kV (qQ (qG (qC (.q 0 (.q 1 (.q 2 (.q 3 (.q 4 (.q 5 (.done))))))) Kr ?_)))
  refine qK rfl rfl rfl rfl (qX rfl rfl rfl rfl (qL (k:=0) rfl rfl rfl rfl υ'146 rfl ζ'25 rfl ?_))
  refine qL (k:=1) rfl rfl rfl rfl υ'25 rfl ζ'3 rfl ?_
  refine qP (j:=1) rfl rfl rfl rfl α'3 Tk Az (by rfl) ?_
  refine qR rfl rfl rfl rfl (qS (qW [3,9] (e':=[(3,_),(9,_)]) rfl ?_))
  refine qQ (cM (kL rfl ?_))
  refine kL rfl ?_
  refine qZ (kL rfl ?_)
  refine qZ (kL rfl ?_)
  refine qZ (kL rfl ?_)
  refine qZ (kL rfl ?_)
  refine qZ (kL rfl ?_)
  refine qZ (kL rfl ?_)
  refine qZ (kV (qQ (qG (qC (.q 0 (.q 1 (.q 2 (.q 3 (.q 4 (.done)))))) Kr ?_))))
  refine qL (k:=2) rfl rfl rfl rfl υ'36 rfl ζ'3 rfl ?_
  refine qP (j:=2) rfl rfl rfl rfl α'3 Tk Az (by rfl) ?_
  refine qK rfl rfl rfl rfl (qN rfl rfl rfl rfl rfl (sK _ _ _ _) ?_)
  refine qR rfl rfl rfl rfl (qS (qW [4] (e':=[(4,_)]) rfl ?_))
  refine qQ (qJ (ck_fold (b:=b) x (pa:=pa) (pc:=pc) (m1:=m1) (m2:=m2) (oa:=oa) (oc:=oc) Ts (by rfl) (by rfl) (hR) ?_))
  refine cR rfl rfl (()) (by congr 1;rw [decide_eq_decide,can_run h1.1 h1.2,okK_k.1 (.inl k1)];try rfl) (by trivial) ?_
  exact Tf
 refine qF (qQ (qG (qG (qC (.q 0 (.q 1 (.done))) Kr ?_))))
 refine qN rfl rfl rfl rfl rfl (cS _ _ _ _) ?_
 refine qR rfl rfl rfl rfl (qS (qQ ?_))
 refine qB rfl (fun k4=>?_) (fun k4=>?_)
 ·
  refine cM (qZ (qZ (kL rfl ?_)))
  refine kL rfl ?_
  refine qZ (kV (kK (qQ (qG (qC (.q 0 (.q 1 (.q 2 (.q 3 (.q 4 (.q 5 (.done))))))) Kr ?_)))))
  refine qK rfl rfl rfl rfl (qX rfl rfl rfl rfl (qL (k:=0) rfl rfl rfl rfl υ'146 rfl ζ'25 rfl ?_))
  refine qL (k:=2) rfl rfl rfl rfl υ'25 rfl ζ'3 rfl ?_
  refine qP (j:=2) rfl rfl rfl rfl α'3 Tk Az (by rfl) ?_
  refine qR rfl rfl rfl rfl (qS (qW [3,9] (e':=[(3,_),(9,_)]) rfl ?_))
  refine qQ (cM (kL rfl ?_))
  refine qZ (kL rfl ?_)
  refine qZ (kL rfl ?_)
  refine qZ (kL rfl ?_)
  refine qZ (kL rfl ?_)
  refine qZ (kL rfl ?_)
  refine qZ (kV (qQ (qG (qC (.q 0 (.q 1 (.q 2 (.q 3 (.q 4 (.done)))))) Kr ?_))))
  refine qL (k:=2) rfl rfl rfl rfl υ'36 rfl ζ'3 rfl ?_
  refine qP (j:=2) rfl rfl rfl rfl α'3 Tk Az (by rfl) ?_
  refine qK rfl rfl rfl rfl (qN rfl rfl rfl rfl rfl (sK _ _ _ _) ?_)
  refine qR rfl rfl rfl rfl (qS (qW [4] (e':=[(4,_)]) rfl ?_))
  refine qQ (qJ (ck_fold (b:=b) x (pa:=pa) (pc:=pc) (m1:=m1) (m2:=m2) (oa:=oa) (oc:=oc) Ts (by rfl) (by rfl) (hR) ?_))
  refine cR rfl rfl (()) (by congr 1;rw [decide_eq_decide,can_run h1.1 h1.2,okK_k.2.1 (.inr k4)];try rfl) (by trivial) ?_
  exact Tf
 refine qF (qQ (qG (qG (qC (.q 0 (.q 1 (.done))) Kr ?_))))
 refine qN rfl rfl rfl rfl rfl (cS _ _ _ _) ?_
 refine qR rfl rfl rfl rfl (qS (qW [0,3,6,7,8,9,64,71] (e':=[(0,_),(3,_),(6,_),(7,_),(8,_),(9,_),(64,_),(71,_)]) rfl ?_))
 refine qQ ?_
 refine qB rfl (fun k3=>?_) (fun k3=>?_)
 ·
  refine cM (qZ (qZ (kL rfl ?_)))
  refine kL rfl ?_
  refine qZ (kL rfl ?_)
  refine kV (qQ (qG (qC (.q 0 (.q 1 (.q 2 (.q 3 (.q 4 (.q 5 (.done))))))) Kr ?_)))
  refine qK rfl rfl rfl rfl (qX rfl rfl rfl rfl (qL (k:=0) rfl rfl rfl rfl υ'146 rfl ζ'25 rfl ?_))
  refine qL (k:=2) rfl rfl rfl rfl υ'25 rfl ζ'3 rfl ?_
  refine qP (j:=2) rfl rfl rfl rfl α'3 Tk Az (by rfl) ?_
  refine qR rfl rfl rfl rfl (qS (qW [3,9] (e':=[(3,_),(9,_)]) rfl ?_))
  refine qQ (cM (kL rfl ?_))
  refine qZ (kL rfl ?_)
  refine qZ (kL rfl ?_)
  refine qZ (kL rfl ?_)
  refine qZ (kL rfl ?_)
  refine qZ (kL rfl ?_)
  refine qZ (kV (qQ (qG (qC (.q 0 (.q 1 (.q 2 (.q 3 (.q 4 (.done)))))) Kr ?_))))
  refine qL (k:=2) rfl rfl rfl rfl υ'36 rfl ζ'3 rfl ?_
  refine qP (j:=2) rfl rfl rfl rfl α'3 Tk Az (by rfl) ?_
  refine qK rfl rfl rfl rfl (qN rfl rfl rfl rfl rfl (sK _ _ _ _) ?_)
  refine qR rfl rfl rfl rfl (qS (qW [4] (e':=[(4,_)]) rfl ?_))
  refine qQ (qJ (ck_fold (b:=b) x (pa:=pa) (pc:=pc) (m1:=m1) (m2:=m2) (oa:=oa) (oc:=oc) Ts (by rfl) (by rfl) (hR) ?_))
  refine cR rfl rfl (()) (by congr 1;rw [decide_eq_decide,can_run h1.1 h1.2,okK_k.2.1 (.inl k3)];try rfl) (by trivial) ?_
  exact Tf
 refine qF (qQ (qG (qG (qC (.q 0 (.q 1 (.done))) Kr ?_))))
 refine qN rfl rfl rfl rfl rfl (cS _ _ _ _) ?_
 refine qR rfl rfl rfl rfl (qS (qQ ?_))
 refine qB rfl (fun k6=>?_) (fun k6=>?_)
 ·
  refine cM (qZ (qZ (kL rfl ?_)))
  refine kL rfl ?_
  refine qZ (kL rfl ?_)
  refine kL rfl ?_
  refine qZ (kV (qQ (qG (qG (qG (qC (.q 0 (.q 1 (.q 2 (.q 3 (.q 4 (.q 5 (.q 6 (.q 7 (.done))))))))) Kr ?_))))))
  refine qK rfl rfl rfl rfl (rL rfl rfl rfl rfl ?_)
  refine qK rfl rfl rfl rfl ?_
  refine s_bool 97 rfl (fun hh=>?_) (fun hh=>?_)
  ·
   try simp only [Bool.and_eq_true,Bool.or_eq_true,Bool.not_eq_true',Bool.not_eq_false',Bool.and_eq_false_iff,Bool.or_eq_false_iff,decide_eq_true_eq,decide_eq_false_iff_not] at hh
   have hw:owF x o=none:=by simpa using hh
   refine qY rfl rfl rfl rfl (qY rfl rfl rfl rfl (qY rfl rfl rfl rfl (qY rfl rfl rfl rfl (kZ rfl rfl rfl rfl rfl (qS (qW [0,3,102] (e':=[(0,_),(3,_),(102,_)]) rfl ?_))))))
   refine qQ (cN rfl ?_)
   refine qG (qC (.q 0 (.done)) Kr ?_)
   refine qR rfl rfl rfl rfl (qS (qQ (qJ (qD (qD (cC (qD (cC ?_))))))))
   refine qD (cC (qD (cC (qD (cC (qD (cC (qD ?_))))))))
   refine ck_fold (b:=b) x (pa:=pa) (pc:=pc) (m1:=m1) (m2:=m2) (oa:=oa) (oc:=oc) Ts (by rfl) (by rfl) (hR) ?_
   refine cR rfl rfl (()) (by congr 1;symm;rw [decide_eq_false_iff_not,can_run h1.1 h1.2,okK_k.2.2.2.1 (k6)];rw [hw];rintro ⟨-,h⟩;cases h) (by trivial) ?_
   exact Tf
  try simp only [Bool.and_eq_true,Bool.or_eq_true,Bool.not_eq_true',Bool.not_eq_false',Bool.and_eq_false_iff,Bool.or_eq_false_iff,decide_eq_true_eq,decide_eq_false_iff_not] at hh
  obtain ⟨v,hw⟩:∃ v,owF x o=some v:=Option.isSome_iff_exists.1 (by simpa using hh)
  refine qK rfl rfl rfl rfl (qL (k:=1) rfl rfl rfl rfl υ'36 rfl ζ'3 rfl ?_)
  refine qP (j:=1) rfl rfl rfl rfl α'3 Tk Az (by rfl) ?_
  refine qN rfl rfl rfl rfl rfl (b_neq _ _ _ _) ?_
  refine kC rfl rfl rfl rfl rfl (qS (qW [0,3,102] (e':=[(0,_),(3,_),(102,_)]) rfl ?_))
  refine qQ ?_
  refine qB rfl (fun hv=>?_) (fun hv=>?_)
  ·
   refine qG (qC (.q 0 (.done)) Kr ?_)
   refine qR rfl rfl rfl rfl (qS (qQ (qJ (qD (qD (cC (qD (cC ?_))))))))
   refine qD (cC (qD (cC (qD (cC (qD (cC (qD ?_))))))))
   refine ck_fold (b:=b) x (pa:=pa) (pc:=pc) (m1:=m1) (m2:=m2) (oa:=oa) (oc:=oc) Ts (by rfl) (by rfl) (hR) ?_
   refine cR rfl rfl (()) (by congr 1;symm;rw [decide_eq_false_iff_not,can_run h1.1 h1.2,okK_k.2.2.2.1 (k6)];rw [hw] at hv ⊢;rintro ⟨-,h⟩;cases h;exact hv rfl) (by trivial) ?_
   exact Tf
  refine qF (qQ (qC (.q 0 (.q 1 (.q 2 (.q 3 (.q 4 (.q 5 (.done))))))) Kr ?_))
  refine qK rfl rfl rfl rfl (qX rfl rfl rfl rfl (qL (k:=0) rfl rfl rfl rfl υ'146 rfl ζ'25 rfl ?_))
  refine qL (k:=3) rfl rfl rfl rfl υ'25 rfl ζ'3 rfl ?_
  refine qP (j:=3) rfl rfl rfl rfl α'3 Tk Az (by rfl) ?_
  refine qR rfl rfl rfl rfl (qS (qW [3,9] (e':=[(3,_),(9,_)]) rfl ?_))
  refine qQ (cM (kL rfl ?_))
  refine qZ (kL rfl ?_)
  refine qZ (kL rfl ?_)
  refine qZ (kL rfl ?_)
  refine qZ (kL rfl ?_)
  refine qZ (kV (qQ (qG (qC (.q 0 (.q 1 (.q 2 (.q 3 (.q 4 (.done)))))) Kr ?_))))
  refine qL (k:=2) rfl rfl rfl rfl υ'36 rfl ζ'3 rfl ?_
  refine qP (j:=2) rfl rfl rfl rfl α'3 Tk Az (by rfl) ?_
  refine qK rfl rfl rfl rfl (qN rfl rfl rfl rfl rfl (sK _ _ _ _) ?_)
  refine qR rfl rfl rfl rfl (qS (qW [4] (e':=[(4,_)]) rfl ?_))
  refine qQ (qJ (ck_fold (b:=b) x (pa:=pa) (pc:=pc) (m1:=m1) (m2:=m2) (oa:=oa) (oc:=oc) Ts (by rfl) (by rfl) (hR) ?_))
  refine cR rfl rfl (()) (by congr 1;rw [decide_eq_decide,can_run h1.1 h1.2,okK_k.2.2.2.1 (k6)];rw [hw] at hv ⊢;have hv2:v=t:=Classical.byContradiction hv;exact ⟨fun h=>⟨h,by rw [hv2]⟩,fun h=>h.1⟩) (by trivial) ?_
  exact Tf
 refine qF (qQ (qG (qG (qC (.q 0 (.q 1 (.done))) Kr ?_))))
 refine qN rfl rfl rfl rfl rfl (cS _ _ _ _) ?_
 refine qR rfl rfl rfl rfl (qS (qW [0,3,7,8,9,64,75] (e':=[(0,_),(3,_),(7,_),(8,_),(9,_),(64,_),(75,_)]) rfl ?_))
 refine qQ ?_
 refine qB rfl (fun k5=>?_) (fun k5=>?_)
 ·
  refine cM (qZ (qZ (kL rfl ?_)))
  refine kL rfl ?_
  refine qZ (kL rfl ?_)
  refine kL rfl ?_
  refine qZ (kL rfl ?_)
  refine qZ (kV (qQ (qG (qG (qG (qC (.q 0 (.done)) Kr ?_))))))
  refine qK rfl rfl rfl rfl (qS (qW [0,3,108] (e':=[(0,_),(3,_),(108,_)]) rfl ?_))
  refine qQ ?_
  refine c_cond rfl (fun hh=>?_) (fun hh=>?_)
  ·
   try simp only [Bool.and_eq_true,Bool.or_eq_true,Bool.not_eq_true',Bool.not_eq_false',Bool.and_eq_false_iff,Bool.or_eq_false_iff,decide_eq_true_eq,decide_eq_false_iff_not] at hh
   obtain ⟨v,hw⟩:∃ v,owF x o=some v:=Option.isSome_iff_exists.1 (by simpa using hh)
   refine qG (qC (.q 0 (.done)) Kr ?_)
   refine qR rfl rfl rfl rfl (qS (qQ (qJ (qD (qD (cC (qD (cC ?_))))))))
   refine qD (cC (qD (cC (qD (cC (qD (ck_fold (b:=b) x (pa:=pa) (pc:=pc) (m1:=m1) (m2:=m2) (oa:=oa) (oc:=oc) Ts (by rfl) (by rfl) (hR) ?_)))))))
   refine cR rfl rfl (()) (by congr 1;symm;rw [decide_eq_false_iff_not,can_run h1.1 h1.2,okK_k.2.2.1 (k5)];rw [hw];rintro ⟨-,h⟩;cases h) (by trivial) ?_
   exact Tf
  try simp only [Bool.and_eq_true,Bool.or_eq_true,Bool.not_eq_true',Bool.not_eq_false',Bool.and_eq_false_iff,Bool.or_eq_false_iff,decide_eq_true_eq,decide_eq_false_iff_not] at hh
  have hw:owF x o=none:=by simpa using hh
  refine qF (qQ (qC (.q 0 (.q 1 (.q 2 (.q 3 (.q 4 (.q 5 (.done))))))) Kr ?_))
  refine qK rfl rfl rfl rfl (qX rfl rfl rfl rfl (qL (k:=0) rfl rfl rfl rfl υ'146 rfl ζ'25 rfl ?_))
  refine qL (k:=3) rfl rfl rfl rfl υ'25 rfl ζ'3 rfl ?_
  refine qP (j:=3) rfl rfl rfl rfl α'3 Tk Az (by rfl) ?_
  refine qR rfl rfl rfl rfl (qS (qW [3,9] (e':=[(3,_),(9,_)]) rfl ?_))
  refine qQ (cM (kL rfl ?_))
  refine qZ (kL rfl ?_)
  refine qZ (kL rfl ?_)
  refine qZ (kL rfl ?_)
  refine qZ (kV (qQ (qG (qC (.q 0 (.q 1 (.q 2 (.q 3 (.q 4 (.done)))))) Kr ?_))))
  refine qL (k:=2) rfl rfl rfl rfl υ'36 rfl ζ'3 rfl ?_
  refine qP (j:=2) rfl rfl rfl rfl α'3 Tk Az (by rfl) ?_
  refine qK rfl rfl rfl rfl (qN rfl rfl rfl rfl rfl (sK _ _ _ _) ?_)
  refine qR rfl rfl rfl rfl (qS (qW [4] (e':=[(4,_)]) rfl ?_))
  refine qQ (qJ (ck_fold (b:=b) x (pa:=pa) (pc:=pc) (m1:=m1) (m2:=m2) (oa:=oa) (oc:=oc) Ts (by rfl) (by rfl) (hR) ?_))
  refine cR rfl rfl (()) (by congr 1;rw [decide_eq_decide,can_run h1.1 h1.2,okK_k.2.2.1 (k5)];exact ⟨fun h=>⟨h,hw⟩,fun h=>h.1⟩) (by trivial) ?_
  exact Tf
 refine qF (qQ (qG (qG (qC (.q 0 (.q 1 (.done))) Kr ?_))))
 refine qN rfl rfl rfl rfl rfl (cS _ _ _ _) ?_
 refine qR rfl rfl rfl rfl (qS (qQ ?_))
 refine qB rfl (fun k7=>?_) (fun k7=>?_)
 ·
  refine cM (qZ (qZ (kL rfl ?_)))
  refine kL rfl ?_
  refine qZ (kL rfl ?_)
  refine kL rfl ?_
  refine qZ (kL rfl ?_)
  refine qZ (kL rfl ?_)
  refine qZ (kV (qQ (qG (qG (qG (qC (.q 0 (.q 1 (.q 2 (.done)))) Kr ?_))))))
  refine qL (k:=0) rfl rfl rfl rfl υ'107 rfl ζ'105 rfl ?_
  refine qP (j:=0) rfl rfl rfl rfl α'105 Tk Az (by rfl) ?_
  refine qN rfl rfl rfl rfl rfl (b_neq _ _ _ _) ?_
  refine qS (qW [0,3,116] (e':=[(0,_),(3,_),(116,_)]) rfl ?_)
  refine qQ ?_
  refine qB rfl (fun hp=>?_) (fun hp=>?_)
  ·
   refine qG (qC (.q 0 (.done)) Kr ?_)
   refine qR rfl rfl rfl rfl (qS (qQ (qJ (qD (qD (cC (qD (cC ?_))))))))
   refine qD (cC (qD (cC (qD (ck_fold (b:=b) x (pa:=pa) (pc:=pc) (m1:=m1) (m2:=m2) (oa:=oa) (oc:=oc) Ts (by rfl) (by rfl) (hR) ?_)))))
   refine cR rfl rfl (()) (by congr 1;symm;rw [decide_eq_false_iff_not,can_run h1.1 h1.2,okK_k.2.2.2.2.1 (k7)];rintro ⟨-,h⟩;exact hp h) (by trivial) ?_
   exact Tf
  refine qF (qQ (qC (.q 0 (.q 1 (.q 2 (.q 3 (.q 4 (.q 5 (.done))))))) Kr ?_))
  refine qK rfl rfl rfl rfl (qX rfl rfl rfl rfl (qL (k:=0) rfl rfl rfl rfl υ'146 rfl ζ'25 rfl ?_))
  refine qL (k:=0) rfl rfl rfl rfl υ'25 rfl ζ'3 rfl ?_
  refine qP (j:=0) rfl rfl rfl rfl α'3 Tk Az (by rfl) ?_
  refine qR rfl rfl rfl rfl (qS (qW [3,9] (e':=[(3,_),(9,_)]) rfl ?_))
  refine qQ (cM (kL rfl ?_))
  refine qZ (kL rfl ?_)
  refine qZ (kL rfl ?_)
  refine qZ (kV (qQ (qG (qC (.q 0 (.q 1 (.q 2 (.q 3 (.q 4 (.done)))))) Kr ?_))))
  refine qL (k:=2) rfl rfl rfl rfl υ'36 rfl ζ'3 rfl ?_
  refine qP (j:=2) rfl rfl rfl rfl α'3 Tk Az (by rfl) ?_
  refine qK rfl rfl rfl rfl (qN rfl rfl rfl rfl rfl (sK _ _ _ _) ?_)
  refine qR rfl rfl rfl rfl (qS (qW [4] (e':=[(4,_)]) rfl ?_))
  refine qQ (qJ (ck_fold (b:=b) x (pa:=pa) (pc:=pc) (m1:=m1) (m2:=m2) (oa:=oa) (oc:=oc) Ts (by rfl) (by rfl) (hR) ?_))
  refine cR rfl rfl (()) (by congr 1;rw [decide_eq_decide,can_run h1.1 h1.2,okK_k.2.2.2.2.1 (k7)];exact ⟨fun h=>⟨h,Classical.byContradiction hp⟩,fun h=>h.1⟩) (by trivial) ?_
  exact Tf
 refine qF (qQ (qG (qG (qC (.q 0 (.q 1 (.done))) Kr ?_))))
 refine qN rfl rfl rfl rfl rfl (cS _ _ _ _) ?_
 refine qR rfl rfl rfl rfl (qS (qW [0,3,8,9,64,79] (e':=[(0,_),(3,_),(8,_),(9,_),(64,_),(79,_)]) rfl ?_))
 refine qQ ?_
 refine qB rfl (fun k8=>?_) (fun k8=>?_)
 ·
  refine cM (qZ (qZ (kL rfl ?_)))
  refine kL rfl ?_
  refine qZ (kL rfl ?_)
  refine kL rfl ?_
  refine qZ (kL rfl ?_)
  refine qZ (kL rfl ?_)
  refine qZ (kL rfl ?_)
  refine qZ (kV (qQ (qG (qG (qG (qC (.q 0 (.q 1 (.q 2 (.done)))) Kr ?_))))))
  refine qL (k:=0) rfl rfl rfl rfl υ'107 rfl ζ'105 rfl ?_
  refine qP (j:=0) rfl rfl rfl rfl α'105 Tk Az (by rfl) ?_
  refine qN rfl rfl rfl rfl rfl (b_neq _ _ _ _) ?_
  refine qS (qW [0,3,124] (e':=[(0,_),(3,_),(124,_)]) rfl ?_)
  refine qQ ?_
  refine qB rfl (fun hp=>?_) (fun hp=>?_)
  ·
   refine qG (qC (.q 0 (.done)) Kr ?_)
   refine qR rfl rfl rfl rfl (qS (qQ (qJ (qD (qD (cC (qD (cC ?_))))))))
   refine qD (cC (qD (ck_fold (b:=b) x (pa:=pa) (pc:=pc) (m1:=m1) (m2:=m2) (oa:=oa) (oc:=oc) Ts (by rfl) (by rfl) (hR) ?_)))
   refine cR rfl rfl (()) (by congr 1;symm;rw [decide_eq_false_iff_not,can_run h1.1 h1.2,okK_k.2.2.2.2.2.1 (k8)];rintro ⟨-,h⟩;exact hp h) (by trivial) ?_
   exact Tf
  refine qF (qQ (qC (.q 0 (.q 1 (.q 2 (.q 3 (.q 4 (.q 5 (.done))))))) Kr ?_))
  refine qK rfl rfl rfl rfl (qX rfl rfl rfl rfl (qL (k:=0) rfl rfl rfl rfl υ'146 rfl ζ'25 rfl ?_))
  refine qL (k:=0) rfl rfl rfl rfl υ'25 rfl ζ'3 rfl ?_
  refine qP (j:=0) rfl rfl rfl rfl α'3 Tk Az (by rfl) ?_
  refine qR rfl rfl rfl rfl (qS (qW [3,9] (e':=[(3,_),(9,_)]) rfl ?_))
  refine qQ (cM (kL rfl ?_))
  refine qZ (kL rfl ?_)
  refine qZ (kV (qQ (qG (qC (.q 0 (.q 1 (.q 2 (.q 3 (.q 4 (.done)))))) Kr ?_))))
  refine qL (k:=2) rfl rfl rfl rfl υ'36 rfl ζ'3 rfl ?_
  refine qP (j:=2) rfl rfl rfl rfl α'3 Tk Az (by rfl) ?_
  refine qK rfl rfl rfl rfl (qN rfl rfl rfl rfl rfl (sK _ _ _ _) ?_)
  refine qR rfl rfl rfl rfl (qS (qW [4] (e':=[(4,_)]) rfl ?_))
  refine qQ (qJ (ck_fold (b:=b) x (pa:=pa) (pc:=pc) (m1:=m1) (m2:=m2) (oa:=oa) (oc:=oc) Ts (by rfl) (by rfl) (hR) ?_))
  refine cR rfl rfl (()) (by congr 1;rw [decide_eq_decide,can_run h1.1 h1.2,okK_k.2.2.2.2.2.1 (k8)];exact ⟨fun h=>⟨h,Classical.byContradiction hp⟩,fun h=>h.1⟩) (by trivial) ?_
  exact Tf
 refine qF (qQ (qG (qG (qC (.q 0 (.q 1 (.done))) Kr ?_))))
 refine qN rfl rfl rfl rfl rfl (cS _ _ _ _) ?_
 refine qR rfl rfl rfl rfl (qS (qQ ?_))
 refine qB rfl (fun k9=>?_) (fun k9=>?_)
 ·
  refine cM (qZ (qZ (kL rfl ?_)))
  refine kL rfl ?_
  refine qZ (kL rfl ?_)
  refine kL rfl ?_
  refine qZ (kL rfl ?_)
  refine qZ (kL rfl ?_)
  refine qZ (kL rfl ?_)
  refine qZ (kL rfl ?_)
  refine qZ (kV (qQ (qG (qC (.q 0 (.q 1 (.q 2 (.q 3 (.q 4 (.q 5 (.done))))))) Kr ?_))))
  refine qK rfl rfl rfl rfl (qX rfl rfl rfl rfl (qL (k:=7) rfl rfl rfl rfl υ'146 rfl ζ'144 rfl ?_))
  refine qP (j:=7) rfl rfl rfl rfl α'144 Tk Az (by rfl) ?_
  refine cH rfl rfl rfl rfl υ'144 ?_
  refine qR rfl rfl rfl rfl (qS (qW [3,9] (e':=[(3,_),(9,_)]) rfl ?_))
  refine qQ (cM (kL rfl ?_))
  refine qZ (kV (qQ (qG (qC (.q 0 (.q 1 (.q 2 (.q 3 (.q 4 (.done)))))) Kr ?_))))
  refine qL (k:=2) rfl rfl rfl rfl υ'36 rfl ζ'3 rfl ?_
  refine qP (j:=2) rfl rfl rfl rfl α'3 Tk Az (by rfl) ?_
  refine qK rfl rfl rfl rfl (qN rfl rfl rfl rfl rfl (sK _ _ _ _) ?_)
  refine qR rfl rfl rfl rfl (qS (qW [4] (e':=[(4,_)]) rfl ?_))
  refine qQ (qJ (ck_fold (b:=b) x (pa:=pa) (pc:=pc) (m1:=m1) (m2:=m2) (oa:=oa) (oc:=oc) Ts (by rfl) (by rfl) (hR) ?_))
  refine cR rfl rfl (()) (by congr 1;rw [decide_eq_decide,can_run h1.1 h1.2,okK_k.2.2.2.2.2.2.1 (k9)];try rfl) (by trivial) ?_
  exact Tf
 refine qF (qQ (qG (qC (.q 0 (.q 1 (.done))) Kr ?_)))
 refine qN rfl rfl rfl rfl rfl (cS _ _ _ _) ?_
 refine qR rfl rfl rfl rfl (qS (qW [3,9,83] (e':=[(3,_),(9,_),(83,_)]) rfl ?_))
 refine qQ ?_
 refine qB rfl (fun k11=>?_) (fun k11=>?_)
 ·
  refine cM (qZ (kL rfl ?_))
  refine kL rfl ?_
  refine qZ (kL rfl ?_)
  refine kL rfl ?_
  refine qZ (kL rfl ?_)
  refine qZ (kL rfl ?_)
  refine qZ (kL rfl ?_)
  refine qZ (kL rfl ?_)
  refine qZ (kL rfl ?_)
  refine qZ (kV (qQ (qG (qC (.q 0 (.done)) Kr ?_))))
  refine qR rfl rfl rfl rfl (qS (qQ (cM (kV (qQ (qG (qC (.q 0 (.q 1 (.q 2 (.q 3 (.q 4 (.done)))))) Kr ?_)))))))
  refine qL (k:=2) rfl rfl rfl rfl υ'36 rfl ζ'3 rfl ?_
  refine qP (j:=2) rfl rfl rfl rfl α'3 Tk Az (by rfl) ?_
  refine qK rfl rfl rfl rfl (qN rfl rfl rfl rfl rfl (sK _ _ _ _) ?_)
  refine qR rfl rfl rfl rfl (qS (qW [4] (e':=[(4,_)]) rfl ?_))
  refine qQ (qJ (ck_fold (b:=b) x (pa:=pa) (pc:=pc) (m1:=m1) (m2:=m2) (oa:=oa) (oc:=oc) Ts (by rfl) (by rfl) (hR) ?_))
  refine cR rfl rfl (()) (by congr 1;rw [decide_eq_decide,can_run h1.1 h1.2,okK_k.2.2.2.2.2.2.2.1 (k11)];try rfl) (by trivial) ?_
  exact Tf
 refine qF (qQ (cM (kL rfl ?_)))
 refine kL rfl ?_
 refine qZ (kL rfl ?_)
 refine kL rfl ?_
 refine qZ (kL rfl ?_)
 refine qZ (kL rfl ?_)
 refine qZ (kL rfl ?_)
 refine qZ (kL rfl ?_)
 refine qZ (kL rfl ?_)
 refine qZ (kL rfl ?_)
 refine qZ (kV (qQ (qG (qC (.q 0 (.q 1 (.q 2 (.q 3 (.q 4 (.done)))))) Kr ?_))))
 refine qL (k:=2) rfl rfl rfl rfl υ'36 rfl ζ'3 rfl ?_
 refine qP (j:=2) rfl rfl rfl rfl α'3 Tk Az (by rfl) ?_
 refine qK rfl rfl rfl rfl (qN rfl rfl rfl rfl rfl (sK _ _ _ _) ?_)
 refine qR rfl rfl rfl rfl (qS (qW [4] (e':=[(4,_)]) rfl ?_))
 refine qQ (qJ (ck_fold (b:=b) x (pa:=pa) (pc:=pc) (m1:=m1) (m2:=m2) (oa:=oa) (oc:=oc) Ts (by rfl) (by rfl) (hR) ?_))
 refine cR rfl rfl (()) (by congr 1;rw [decide_eq_decide,can_run h1.1 h1.2];exact ⟨fun h=>by omega,fun h=>absurd h (okK_k.2.2.2.2.2.2.2.2 k1 k2 k3 k4 k5 k6 k7 k8 k9 k11)⟩) (by trivial) ?_
 exact Tf
end Go.Ab.Fe
set_option linter.unusedVariables false
set_option linter.unusedSimpArgs false
set_option maxRecDepth 100000
namespace Go.Ab.Fe
open Go Go.Proofs Go.Ab
theorem owF_put {t:Int} (h:t≠-1):(if t=-1 then none else some t)=some t:=if_neg h
theorem rel_own {x:CS} {Fs:Int→Option T3} {Fo:Int→Option Int} (hR:RelC Fs Fo x) {l v:Int} (h0:0≤l) (h:l.toNat < x.O.length) (hv:v≠-1) {th va vo lk:Int} {pa:List Int} {B:List T2} {n:Int}:RelC Fs (upd Fo l (some v)) ⟨th,va,vo,lk,pa,x.T,x.O.set l.toNat v,B,n⟩:=by
  have h:=rel_ow hR h0 h (v:=v) (th:=th) (va:=va) (vo:=vo) (lk:=lk) (pa:=pa) (B:=B) (n:=n)
  rwa [owF_put hv] at h
theorem set_set {α:Type} (l:List α) (i:Nat) (a b:α):(l.set i a).set i b=l.set i b:=by simp
abbrev ev2 (x:T2):Value:=.agg #[.int .i64 x.1,.int .i64 x.2]
theorem next_spec (pa:Option Addr) (pc b:Nat) (x:CS) (hx:CInv x) (hn:x.n≤1000000000000000) (pl:List Int) (hpl:x.pa=pl) (k t o:Int):Spec Try.prog 50 [.pointer (some ⟨b,0,none⟩),.agg #[.int .i64 k,.int .i64 t,.int .i64 o]] [ck pa pc b x,own 1 encZ pa pc pl] (fun (_:Unit)=>.int .i64 (nxE x k t o)) (fun _=>True) (fun _=>[ck pa pc b (nxF x k t o),own 1 encZ pa pc pl]):=by
 refine kP (n:=117) Try.func50 rfl rfl rfl ?_
 intro Γ w0
 simp only [argE,List.cons_append,List.nil_append,Nat.zero_add,Nat.reduceAdd]
 have hn0:=hx.n0
 refine qG (qC ((.l 0 [] (.q 1 (.done)))) Kr ?_)
 refine sX rfl rfl rfl rfl (us:=[_,_,_]) rfl ?_
 intro b3
 refine qV (qR rfl rfl rfl rfl (qS (qQ (qG (qG (qC (.q 0 ((.l 1 [] (.done)))) Kr ?_))))))
 refine qK rfl rfl rfl rfl ?_
 have sp_1:=none_spec pa pc b x
 refine qM rfl rfl rfl rfl rfl rfl κ'80 (sp_1) Ts ?_
 rintro ⟨⟩ -
 try simp only [List.cons_append,List.nil_append]
 refine qV (qS (qQ (kB rfl ?_)))
 refine qF (qQ (qG (qG (qC (.q 0 (.q 1 ((.l 2 [] (.q 3 (.done)))))) Kr ?_))))
 refine qK rfl rfl rfl rfl (kN rfl rfl rfl rfl α'36 ζ'36 Tk 0 (us:=[_,_,_]) Az rfl rfl ?_)
 have sp_2:=can_spec pa pc b x hx k t o
 refine qM rfl rfl rfl rfl rfl rfl κ'47 (sp_2) Ts ?_
 rintro ⟨⟩ -
 try simp only [List.cons_append,List.nil_append]
 refine qV (rL rfl rfl rfl rfl ?_)
 refine qS (qW [0,3,11] (e':=[(0,_),(3,_),(11,_)]) rfl ?_)
 refine qQ ?_
 refine c_cond_np rfl (fun hc=>?_) (fun hc=>?_)
 ·
  have hc:¬ canF x k t o:=hc
  refine qG (qC (.q 0 (.done)) Kr ?_)
  refine qR rfl rfl rfl rfl (qS (qQ (qJ (qD ?_))))
  rw [show nxF x k t o=x from if_neg hc]
  refine cR rfl rfl (()) (by rw [show nxE x k t o=6 from if_neg hc]) (by trivial) ?_
  exact Tf
 obtain ⟨o5,o7,o9,o10,o11⟩:=can_obj hx hc
 obtain ⟨n5,n6,n7,n9,n10,n11,nn⟩:=nxF_k hc
 obtain ⟨t0,t1,t2⟩:=stF_nz (can_th hc)
 refine qF (qQ (qG (cK (A:=ck pa pc b x) Tk ?_)))
 refine ck_open fun m1 m2 Fs Fo oa oc hR=>?_
 refine qC (.q 0 (.q 1 (.q 2 (.q 3 (.q 4 (.q 5 (.q 6 ((.l 7 [] (.done)))))))))) Kr ?_
 refine qK rfl rfl rfl rfl (qX rfl rfl rfl rfl (qL (k:=8) rfl rfl rfl rfl υ'146 rfl ζ'3 rfl ?_))
 refine qP (j:=8) rfl rfl rfl rfl α'3 Tk Az (by rfl) ?_
 refine qN rfl rfl rfl rfl rfl (cV _ (by exact kG Om Om)) ?_
 refine qX rfl rfl rfl rfl (qL (k:=8) rfl rfl rfl rfl υ'146 rfl ζ'3 rfl ?_)
 refine kR (j:=8) rfl rfl rfl rfl ζ'3 (us:=[_]) rfl rfl rfl Tk Az (by first | decide | (simp;done) | omega) ?_
 simp only [setL,List.set]
 refine qV (qS (qW [0,3] (e':=[(0,_),(3,_)]) rfl ?_))
 refine qQ (qG (qG (qC (.q 0 (.q 1 (.done))) Kr ?_)))
 refine qL (k:=0) rfl rfl rfl rfl υ'36 rfl ζ'34 rfl ?_
 refine qP (j:=0) rfl rfl rfl rfl α'34 Tk Az (by rfl) ?_
 refine qS (qQ (kS (qG (qC (.q 0 (.q 1 (.done))) Kr ?_))))
 refine qN rfl rfl rfl rfl rfl (cS _ _ _ _) ?_
 refine qR rfl rfl rfl rfl (qS (qQ ?_))
 refine qB rfl (fun k5=>?_) (fun k5=>?_)
 ·
  refine kX rfl (.q 0 (.q 1 (.q 2 (.q 3 (.q 4 (.q 5 (.q 6 (.q 7 ((.l 8 [] (.done))))))))))) Kr ?_
  refine qK rfl rfl rfl rfl (qX rfl rfl rfl rfl (qL (k:=6) rfl rfl rfl rfl υ'146 rfl ζ'143 rfl ?_))
  refine qP (j:=6) rfl rfl rfl rfl α'143 Tk Az (by rfl) ?_
  refine qL (k:=2) rfl rfl rfl rfl υ'36 rfl ζ'3 rfl ?_
  refine qP (j:=2) rfl rfl rfl rfl α'3 Tk Az (by rfl) ?_
  refine qL (k:=1) rfl rfl rfl rfl υ'36 rfl ζ'3 rfl ?_
  refine qP (j:=1) rfl rfl rfl rfl α'3 Tk Az (by rfl) ?_
  refine sF (ek:=ekZ) (ev1:=ekZ) (F:=Fo) (m:=m2) (k:=o) (v:=t) (by first | exact .inl rfl | exact .inr rfl) rfl rfl rfl rfl υ'143 (cW υ'3) Tk ?_
  refine qV (qS (qW [] (e':=[]) rfl ?_))
  refine kK (qQ (qG (qC (.q 0 (.done)) Kr ?_)))
  refine qR rfl rfl rfl rfl (qS (qQ (qJ ?_)))
  rw [n5 k5]
  refine ck_fold (b:=b) (⟨x.th,x.va,x.vo,x.lk,x.pa,x.T,x.O.set o.toNat t,x.B,x.n+1⟩) (pa:=pa) (pc:=pc) (m1:=m1) (m2:=m2) (oa:=oa) (oc:=oc) Ts (by rfl) (by rfl) (rel_own hR (o5 (.inl k5)).1 (o5 (.inl k5)).2 Om) ?_
  refine cR rfl rfl (()) (by rw [show nxE x k t o=0 from if_pos hc]) (by trivial) ?_
  exact Tf
 refine qG (qC (.q 0 (.q 1 (.done))) Kr ?_)
 refine qN rfl rfl rfl rfl rfl (cS _ _ _ _) ?_
 refine qR rfl rfl rfl rfl (qS (qW [0,3,20,31] (e':=[(0,_),(3,_),(20,_),(31,_)]) rfl ?_))
 refine qQ ?_
 refine qB rfl (fun k6=>?_) (fun k6=>?_)
 ·
  refine kX rfl (.q 0 (.q 1 (.q 2 (.q 3 (.q 4 (.q 5 ((.l 6 [] (.done))))))))) Kr ?_
  refine qK rfl rfl rfl rfl (qX rfl rfl rfl rfl (qL (k:=6) rfl rfl rfl rfl υ'146 rfl ζ'143 rfl ?_))
  refine qP (j:=6) rfl rfl rfl rfl α'143 Tk Az (by rfl) ?_
  refine qL (k:=2) rfl rfl rfl rfl υ'36 rfl ζ'3 rfl ?_
  refine qP (j:=2) rfl rfl rfl rfl α'3 Tk Az (by rfl) ?_
  refine l_delete (ek:=ekZ) (ev1:=ekZ) (F:=Fo) (m:=m2) (k:=o) rfl rfl rfl rfl υ'143 (cW υ'3) Tk ?_
  refine qV (qS (qW [] (e':=[]) rfl ?_))
  refine kK (qQ (qG (qC (.q 0 (.done)) Kr ?_)))
  refine qR rfl rfl rfl rfl (qS (qQ (qJ ?_)))
  rw [n6 k6]
  refine ck_fold (b:=b) (⟨x.th,x.va,x.vo,x.lk,x.pa,x.T,x.O.set o.toNat (-1),x.B,x.n+1⟩) (pa:=pa) (pc:=pc) (m1:=m1) (m2:=m2) (oa:=oa) (oc:=oc) Ts (by rfl) (by rfl) (rel_ow hR (v:=-1) (o5 (.inr k6)).1 (o5 (.inr k6)).2) ?_
  refine cR rfl rfl (()) (by rw [show nxE x k t o=0 from if_pos hc]) (by trivial) ?_
  exact Tf
 refine qG (qC (.q 0 (.q 1 (.done))) Kr ?_)
 refine qN rfl rfl rfl rfl rfl (cS _ _ _ _) ?_
 refine qR rfl rfl rfl rfl (qS (qQ ?_))
 refine qB rfl (fun k7=>?_) (fun k7=>?_)
 ·
  refine kX rfl (.q 0 (.q 1 (.q 2 (.q 3 (.q 4 (.q 5 (.q 6 ((.l 7 [] (.done)))))))))) Kr ?_
  refine qK rfl rfl rfl rfl (qX rfl rfl rfl rfl (qL (k:=5) rfl rfl rfl rfl υ'146 rfl ζ'142 rfl ?_))
  refine qP (j:=5) rfl rfl rfl rfl α'142 Tk Az (by rfl) ?_
  refine qL (k:=2) rfl rfl rfl rfl υ'36 rfl ζ'3 rfl ?_
  refine qP (j:=2) rfl rfl rfl rfl α'3 Tk Az (by rfl) ?_
  refine cX rfl rfl rfl rfl (vs:=[_,_,_]) (kM υ'107 ω'107 (ps:=[(0,1),(1,1),(2,1)]) ⟨rfl,ζ'105,rfl,ζ'3,rfl,ζ'3,trivial⟩ rfl) ?_
  refine sF (ek:=ekZ) (ev1:=ev3) (F:=Fs) (m:=m1) (k:=o) (v:=(1,0,0)) (by first | exact .inl rfl | exact .inr rfl) rfl rfl rfl rfl υ'142 (cW υ'3) Tk ?_
  refine qV (qS (qW [] (e':=[]) rfl ?_))
  refine kK (qQ (qG (qC (.q 0 (.done)) Kr ?_)))
  refine qR rfl rfl rfl rfl (qS (qQ (qJ ?_)))
  rw [n7 k7]
  refine ck_fold (b:=b) (⟨x.th,x.va,x.vo,x.lk,x.pa,x.T.set o.toNat (1,0,0),x.O,x.B,x.n+1⟩) (pa:=pa) (pc:=pc) (m1:=m1) (m2:=m2) (oa:=oa) (oc:=oc) Ts (by rfl) (by rfl) (rel_st hR (o7 k7).1 (o7 k7).2.1) ?_
  refine cR rfl rfl (()) (by rw [show nxE x k t o=0 from if_pos hc]) (by trivial) ?_
  exact Tf
 refine qG (qC (.q 0 (.q 1 (.done))) Kr ?_)
 refine qN rfl rfl rfl rfl rfl (cS _ _ _ _) ?_
 refine qR rfl rfl rfl rfl (qS (qW [0,3,20,48] (e':=[(0,_),(3,_),(20,_),(48,_)]) rfl ?_))
 refine qQ ?_
 refine qB rfl (fun k9=>?_) (fun k9=>?_)
 ·
  refine qG ?_
  obtain ⟨p0,p1,p2,p3⟩:=o9 k9
  have hop:=opF_at (x:=x) (b:=o) p0 Om
  obtain ⟨pp,hpp⟩:=cP p2
  have hbp:=hx.op _ _ _ hop hpp
  have hpr:=hx.sh.pa pp (List.mem_of_getElem? hpp)
  refine kX rfl (.q 0 (.q 1 (.q 2 (.q 3 (.q 4 (.q 5 (.q 6 (.q 7 (.done))))))))) Kr ?_
  refine qK rfl rfl rfl rfl (qX rfl rfl rfl rfl (qL (k:=7) rfl rfl rfl rfl υ'146 rfl ζ'144 rfl ?_))
  refine qP (j:=7) rfl rfl rfl rfl α'144 Tk Az (by rfl) ?_
  refine qL (k:=2) rfl rfl rfl rfl υ'36 rfl ζ'3 rfl ?_
  refine qP (j:=2) rfl rfl rfl rfl α'3 Tk Az (by rfl) ?_
  refine kY (sz:=1) (k:=o.toNat) (enc:=enc2) (xs:=x.B) rfl rfl rfl rfl rfl υ'144 ζ'153 hop (by first | rfl | omega) Om Tk ?_
  intro ib56 io56 ha56 hl56 hc56
  refine qR rfl rfl rfl rfl (qS (qW [0,3,5] (e':=[(0,_),(3,_),(5,_)]) rfl ?_))
  refine qQ (qG (kX rfl (.q 0 (.q 1 (.q 2 (.q 3 (.q 4 (.q 5 (.q 6 (.q 7 (.q 8 (.q 9 (.q 10 (.q 11 (.q 12 ((.l 13 [] (.done)))))))))))))))) Kr ?_))
  refine qK rfl rfl rfl rfl (qX rfl rfl rfl rfl (qL (k:=5) rfl rfl rfl rfl υ'146 rfl ζ'142 rfl ?_))
  refine qP (j:=5) rfl rfl rfl rfl α'142 Tk Az (by rfl) ?_
  refine qL (k:=1) rfl rfl rfl rfl υ'36 rfl ζ'3 rfl ?_
  refine qP (j:=1) rfl rfl rfl rfl α'3 Tk Az (by rfl) ?_
  refine qL (k:=2) rfl rfl rfl rfl υ'36 rfl ζ'3 rfl ?_
  refine qP (j:=2) rfl rfl rfl rfl α'3 Tk Az (by rfl) ?_
  refine qK rfl rfl rfl rfl (qX rfl rfl rfl rfl (qL (k:=0) rfl rfl rfl rfl υ'153 rfl ζ'3 rfl ?_))
  refine kQ (v:=(.int .i64 ((opF x o).1))) (j:=0) (k':=o.toNat) (enc:=enc2) (off:=io56) rfl rfl rfl rfl α'3 ha56 enc2_len hop Tk (by first | rfl | exact (Nat.add_zero _).symm | omega) (by rfl) ?_
  refine cX rfl rfl rfl rfl (vs:=[_,_,_]) (kM υ'107 ω'107 (ps:=[(0,1),(1,1),(2,1)]) ⟨rfl,ζ'105,rfl,ζ'3,rfl,ζ'3,trivial⟩ rfl) ?_
  refine sF (ek:=ekZ) (ev1:=ev3) (F:=Fs) (m:=m1) (k:=t) (v:=(2,o,(opF x o).1)) (by first | exact .inl rfl | exact .inr rfl) rfl rfl rfl rfl υ'142 (cW υ'3) Tk ?_
  refine qV (qS (qW [0,3,5] (e':=[(0,_),(3,_),(5,_)]) rfl ?_))
  refine qQ (qG (qC (.q 0 (.q 1 (.q 2 (.q 3 (.q 4 (.q 5 (.q 6 ((.l 7 [] (.done)))))))))) Kr ?_))
  refine qK rfl rfl rfl rfl (qX rfl rfl rfl rfl (qL (k:=1) rfl rfl rfl rfl υ'153 rfl ζ'3 rfl ?_))
  refine kQ (v:=(.int .i64 ((opF x o).2))) (j:=1) (k':=o.toNat) (enc:=enc2) (off:=io56) rfl rfl rfl rfl α'3 ha56 enc2_len hop Tk (by first | rfl | exact (Nat.add_zero _).symm | omega) (by rfl) ?_
  refine qN rfl rfl rfl rfl rfl (cV _ (by exact kG Om Om)) ?_
  refine qX rfl rfl rfl rfl (qL (k:=1) rfl rfl rfl rfl υ'153 rfl ζ'3 rfl ?_)
  refine kJ (j:=1) (k:=o.toNat) (q:=((opF x o).1,(opF x o).2+1)) (enc:=enc2) (off:=io56) rfl rfl rfl rfl ζ'3 (us:=[_]) rfl rfl rfl ha56 enc2_len hop Tk (by first | rfl | exact (Nat.add_zero _).symm | omega) (by first | decide | exact Nat.le_of_ble_eq_true rfl) (by rfl) ?_
  refine qV ?_
  have hop2:(x.B.set o.toNat ((opF x o).1,(opF x o).2+1))[o.toNat]?=some ((opF x o).1,(opF x o).2+1):=List.getElem?_set_self p1
  refine qS (qW [0,3,5] (e':=[(0,_),(3,_),(5,_)]) rfl ?_)
  refine qQ (qG ?_)
  rw [hpl] at hpp p2
  refine kX rfl (.q 0 (.q 1 (.q 2 (.q 3 (.q 4 (.q 5 (.q 6 (.q 7 (.q 8 (.q 9 (.q 10 (.q 11 (.q 12 (.q 13 (.done))))))))))))))) Kr ?_
  refine qK rfl rfl rfl rfl (qX rfl rfl rfl rfl (qL (k:=1) rfl rfl rfl rfl υ'153 rfl ζ'3 rfl ?_))
  refine kQ (v:=(.int .i64 ((opF x o).2+1))) (j:=1) (k':=o.toNat) (enc:=enc2) (off:=io56) rfl rfl rfl rfl α'3 ha56 enc2_len hop2 Tk (by first | rfl | exact (Nat.add_zero _).symm | omega) (by rfl) ?_
  refine qK rfl rfl rfl rfl (qX rfl rfl rfl rfl (qL (k:=0) rfl rfl rfl rfl υ'146 rfl ζ'25 rfl ?_))
  refine qL (k:=4) rfl rfl rfl rfl υ'25 rfl ζ'23 rfl ?_
  refine qP (j:=4) rfl rfl rfl rfl α'23 Tk Az (by rfl) ?_
  refine qL (k:=2) rfl rfl rfl rfl υ'36 rfl ζ'3 rfl ?_
  refine qP (j:=2) rfl rfl rfl rfl α'3 Tk Az (by rfl) ?_
  refine kY (sz:=0) (k:=o.toNat) (enc:=encZ) (xs:=pl) rfl rfl rfl rfl rfl υ'23 ζ'3 hpp Om (by rw [hpl];omega) Tk ?_
  intro ib88 io88 ha88 hl88 hc88
  refine kQ (v:=(.int .i64 pp)) (j:=0) (k':=o.toNat) (enc:=encZ) (off:=io88) rfl rfl rfl rfl α'3 ha88 encZ_len hpp Tk (by first | rfl | exact (Nat.add_zero _).symm | omega) (by rfl) ?_
  refine qN rfl rfl rfl rfl rfl (cS _ _ _ _) ?_
  refine qS (qW [5,90] (e':=[(5,_),(90,_)]) rfl ?_)
  refine qQ ?_
  refine qB rfl (fun hful=>?_) (fun hful=>?_)
  ·
   refine qC (.q 0 (.q 1 (.q 2 (.q 3 (.q 4 (.q 5 (.q 6 (.q 7 ((.l 8 [] (.done))))))))))) Kr ?_
   refine qK rfl rfl rfl rfl (qK rfl rfl rfl rfl (qX rfl rfl rfl rfl (qL (k:=0) rfl rfl rfl rfl υ'153 rfl ζ'3 rfl ?_)))
   refine kQ (v:=(.int .i64 ((opF x o).1))) (j:=0) (k':=o.toNat) (enc:=enc2) (off:=io56) rfl rfl rfl rfl α'3 ha56 enc2_len hop2 Tk (by first | rfl | exact (Nat.add_zero _).symm | omega) (by rfl) ?_
   refine qN rfl rfl rfl rfl rfl (cV _ (by exact kG Om Om)) ?_
   refine cX rfl rfl rfl rfl (vs:=[_,_]) (kM υ'153 ω'153 (ps:=[(0,1),(1,1)]) ⟨rfl,ζ'3,rfl,ζ'3,trivial⟩ rfl) ?_
   refine qX rfl rfl rfl rfl (kJ (j:=0) (k:=o.toNat) (q:=((opF x o).1+1,0)) (enc:=enc2) (off:=io56) rfl rfl rfl rfl ζ'153 (us:=[_,_]) rfl rfl rfl ha56 enc2_len hop2 Tk (by first | rfl | exact (Nat.add_zero _).symm | omega) (by first | decide | exact Nat.le_of_ble_eq_true rfl) (by rfl) ?_)
   refine qV ?_
   rw [set_set]
   refine qS (qW [] (e':=[]) rfl ?_)
   refine kK (qQ (qG (qC (.q 0 (.done)) Kr ?_)))
   refine qR rfl rfl rfl rfl (qS (qQ (qJ ?_)))
   rw [n9 k9,hpl,getD_some hpp,← hpl,show arrF (opF x o) pp=((opF x o).1+1,0) from if_pos hful]
   refine ck_fold (b:=b) (⟨x.th,x.va,x.vo,x.lk,x.pa,x.T.set t.toNat (2,o,(opF x o).1),x.O,x.B.set o.toNat ((opF x o).1+1,0),x.n+1⟩) (pa:=pa) (pc:=pc) (m1:=m1) (m2:=m2) (oa:=oa) (oc:=oc) Ts (by rfl) (by simp) (rel_st hR t0 t1) ?_
   refine cR rfl rfl (()) (by rw [show nxE x k t o=0 from if_pos hc]) (by trivial) ?_
   exact Tf
  refine qF (kK (qQ (qG (qC (.q 0 (.done)) Kr ?_))))
  refine qR rfl rfl rfl rfl (qS (qQ (qJ ?_)))
  rw [n9 k9,hpl,getD_some hpp,← hpl,show arrF (opF x o) pp=((opF x o).1,(opF x o).2+1) from if_neg hful]
  refine ck_fold (b:=b) (⟨x.th,x.va,x.vo,x.lk,x.pa,x.T.set t.toNat (2,o,(opF x o).1),x.O,x.B.set o.toNat ((opF x o).1,(opF x o).2+1),x.n+1⟩) (pa:=pa) (pc:=pc) (m1:=m1) (m2:=m2) (oa:=oa) (oc:=oc) Ts (by rfl) (by simp) (rel_st hR t0 t1) ?_
  refine cR rfl rfl (()) (by rw [show nxE x k t o=0 from if_pos hc]) (by trivial) ?_
  exact Tf
 refine qG (qC (.q 0 (.q 1 (.done))) Kr ?_)
 refine qN rfl rfl rfl rfl rfl (cS _ _ _ _) ?_
 refine qR rfl rfl rfl rfl (qS (qQ ?_))
 refine qB rfl (fun k10=>?_) (fun k10=>?_)
 ·
  refine kX rfl (.q 0 (.q 1 (.q 2 (.q 3 (.q 4 (.q 5 (.q 6 ((.l 7 [] (.done)))))))))) Kr ?_
  refine qK rfl rfl rfl rfl (qX rfl rfl rfl rfl (qL (k:=5) rfl rfl rfl rfl υ'146 rfl ζ'142 rfl ?_))
  refine qP (j:=5) rfl rfl rfl rfl α'142 Tk Az (by rfl) ?_
  refine qL (k:=1) rfl rfl rfl rfl υ'36 rfl ζ'3 rfl ?_
  refine qP (j:=1) rfl rfl rfl rfl α'3 Tk Az (by rfl) ?_
  refine cX rfl rfl rfl rfl (vs:=[_,_,_]) (kM υ'107 ω'107 (ps:=[(0,1),(1,1),(2,1)]) ⟨rfl,ζ'105,rfl,ζ'3,rfl,ζ'3,trivial⟩ rfl) ?_
  refine sF (ek:=ekZ) (ev1:=ev3) (F:=Fs) (m:=m1) (k:=t) (v:=(1,0,0)) (by first | exact .inl rfl | exact .inr rfl) rfl rfl rfl rfl υ'142 (cW υ'3) Tk ?_
  refine qV (qS (qW [] (e':=[]) rfl ?_))
  refine kK (qQ (qG (qC (.q 0 (.done)) Kr ?_)))
  refine qR rfl rfl rfl rfl (qS (qQ (qJ ?_)))
  rw [n10 k10]
  refine ck_fold (b:=b) (⟨x.th,x.va,x.vo,x.lk,x.pa,x.T.set t.toNat (1,0,0),x.O,x.B,x.n+1⟩) (pa:=pa) (pc:=pc) (m1:=m1) (m2:=m2) (oa:=oa) (oc:=oc) Ts (by rfl) (by rfl) (rel_st hR t0 t1) ?_
  refine cR rfl rfl (()) (by rw [show nxE x k t o=0 from if_pos hc]) (by trivial) ?_
  exact Tf
 refine qG (qC (.q 0 (.q 1 (.done))) Kr ?_)
 refine qN rfl rfl rfl rfl rfl (cS _ _ _ _) ?_
 refine qR rfl rfl rfl rfl (qS (qW [0,3,108] (e':=[(0,_),(3,_),(108,_)]) rfl ?_))
 refine qQ ?_
 refine qB rfl (fun k11=>?_) (fun k11=>?_)
 ·
  refine kX rfl (.q 0 (.q 1 (.q 2 (.q 3 (.q 4 (.q 5 (.q 6 ((.l 7 [] (.done)))))))))) Kr ?_
  refine qK rfl rfl rfl rfl (qX rfl rfl rfl rfl (qL (k:=5) rfl rfl rfl rfl υ'146 rfl ζ'142 rfl ?_))
  refine qP (j:=5) rfl rfl rfl rfl α'142 Tk Az (by rfl) ?_
  refine qL (k:=1) rfl rfl rfl rfl υ'36 rfl ζ'3 rfl ?_
  refine qP (j:=1) rfl rfl rfl rfl α'3 Tk Az (by rfl) ?_
  refine cX rfl rfl rfl rfl (vs:=[_,_,_]) (kM υ'107 ω'107 (ps:=[(0,1),(1,1),(2,1)]) ⟨rfl,ζ'105,rfl,ζ'3,rfl,ζ'3,trivial⟩ rfl) ?_
  refine sF (ek:=ekZ) (ev1:=ev3) (F:=Fs) (m:=m1) (k:=t) (v:=(3,0,0)) (by first | exact .inl rfl | exact .inr rfl) rfl rfl rfl rfl υ'142 (cW υ'3) Tk ?_
  refine qV (qS (qW [] (e':=[]) rfl ?_))
  refine kK (qQ (qG (qC (.q 0 (.done)) Kr ?_)))
  refine qR rfl rfl rfl rfl (qS (qQ (qJ ?_)))
  rw [n11 k11]
  refine ck_fold (b:=b) (⟨x.th,x.va,x.vo,x.lk,x.pa,x.T.set t.toNat (3,0,0),x.O,x.B,x.n+1⟩) (pa:=pa) (pc:=pc) (m1:=m1) (m2:=m2) (oa:=oa) (oc:=oc) Ts (by rfl) (by rfl) (rel_st hR t0 t1) ?_
  refine cR rfl rfl (()) (by rw [show nxE x k t o=0 from if_pos hc]) (by trivial) ?_
  exact Tf
 refine qF (kK (qQ (qG (qC (.q 0 (.done)) Kr ?_))))
 refine qR rfl rfl rfl rfl (qS (qQ (qJ ?_)))
 rw [nn k5 k6 k7 k9 k10 k11]
 refine ck_fold (b:=b) (⟨x.th,x.va,x.vo,x.lk,x.pa,x.T,x.O,x.B,x.n+1⟩) (pa:=pa) (pc:=pc) (m1:=m1) (m2:=m2) (oa:=oa) (oc:=oc) Ts (by rfl) (by rfl) (rel_n hR) ?_
 refine cR rfl rfl (()) (by rw [show nxE x k t o=0 from if_pos hc]) (by trivial) ?_
 exact Tf
theorem len_spec (pa:Option Addr) (pc b:Nat) (x:CS):Spec Try.prog 46 [.pointer (some ⟨b,0,none⟩)] [ck pa pc b x] (fun (_:Unit)=>.int .i64 x.n) (fun _=>True) (fun _=>[ck pa pc b x]):=by
 refine kP (n:=9) Try.func46 rfl rfl rfl ?_
 intro Γ w0
 simp only [argE,List.cons_append,List.nil_append,Nat.zero_add,Nat.reduceAdd]
 refine qG (qC (.q 0 (.done)) Kr ?_)
 refine qR rfl rfl rfl rfl (qS (qQ (qG (qG (qC (.q 0 ((.l 1 [] (.done)))) Kr ?_)))))
 refine qK rfl rfl rfl rfl ?_
 have sp_1:=none_spec pa pc b x
 refine qM rfl rfl rfl rfl rfl rfl κ'80 (sp_1) Ts ?_
 rintro ⟨⟩ -
 try simp only [List.cons_append,List.nil_append]
 refine qV (qS (qQ (kB rfl ?_)))
 refine qF (qQ (qG (cK (A:=ck pa pc b x) Tk ?_)))
 refine ck_open fun m1 m2 Fs Fo oa oc hR=>?_
 refine qC (.q 0 (.q 1 (.q 2 (.q 3 (.q 4 (.done)))))) Kr ?_
 refine qK rfl rfl rfl rfl (qX rfl rfl rfl rfl (qL (k:=8) rfl rfl rfl rfl υ'146 rfl ζ'3 rfl ?_))
 refine qP (j:=8) rfl rfl rfl rfl α'3 Tk Az (by rfl) ?_
 refine qR rfl rfl rfl rfl (qS (qW [2] (e':=[(2,_)]) rfl ?_))
 refine qQ (qJ (ck_fold (b:=b) x (pa:=pa) (pc:=pc) (m1:=m1) (m2:=m2) (oa:=oa) (oc:=oc) Ts (by rfl) (by rfl) (hR) ?_))
 refine cR rfl rfl (()) (by first | rfl | (first | rfl | (congr 1;done) | (congr 1 <;> first | rfl | omega | (simp;done) | (simp;omega)))) (by trivial) ?_
 exact Tf
theorem stand_spec (pa:Option Addr) (pc b:Nat) (x:CS) (t:Int):Spec Try.prog 45 [.pointer (some ⟨b,0,none⟩),.int .i64 t] [ck pa pc b x] (fun (_:Unit)=>.tuple #[ev3 (stF x t),.int .i64 (if 0≤t∧t < x.th then 0 else 2)]) (fun _=>True) (fun _=>[ck pa pc b x]):=by
 refine kP (n:=23) Try.func45 rfl rfl rfl ?_
 intro Γ w0
 simp only [argE,List.cons_append,List.nil_append,Nat.zero_add,Nat.reduceAdd]
 refine qG (qC ((.l 0 [] (.q 1 (.done)))) Kr ?_)
 refine cF rfl rfl rfl ω'107 (zs:=[.int .i64 0,.int .i64 0,.int .i64 0]) rfl ?_
 intro b4
 refine qV (qR rfl rfl rfl rfl (qS (qQ (qG (qG (qC (.q 0 ((.l 1 [] (.done)))) Kr ?_))))))
 refine qK rfl rfl rfl rfl ?_
 have sp_1:=none_spec pa pc b x
 refine qM rfl rfl rfl rfl rfl rfl κ'80 (sp_1) Ts ?_
 rintro ⟨⟩ -
 try simp only [List.cons_append,List.nil_append]
 refine qV (qS (qQ (kB rfl ?_)))
 refine qF (qQ (qG (cK (A:=ck pa pc b x) Tk ?_)))
 refine ck_open fun m1 m2 Fs Fo oa oc hR=>?_
 refine kX rfl (.q 0 (.q 1 (.q 2 (.q 3 (.q 4 (.q 5 (.q 6 (.q 7 (.q 8 (.q 9 (.q 10 (.q 11 (.q 12 ((.l 13 [3,5] ((.l 14 [] (.q 15 (.done))))))))))))))))))) Kr ?_
 refine qK rfl rfl rfl rfl (qX rfl rfl rfl rfl (qL (k:=5) rfl rfl rfl rfl υ'146 rfl ζ'142 rfl ?_))
 refine qP (j:=5) rfl rfl rfl rfl α'142 Tk Az (by rfl) ?_
 refine qK rfl rfl rfl rfl (sL (ek:=ekZ) (ev1:=ev3) (F:=Fs) (m:=m1) (k:=t) (0,0,0) rfl rfl rfl rfl rfl υ'142 (cW υ'3) ω'107 Tk ?_)
 refine kH 14 rfl (v':=.agg #[.int .i64 ((stF x t).1),.int .i64 ((stF x t).2.1),.int .i64 ((stF x t).2.2)]) (by rw [hR.st]) ?_
 refine qK rfl rfl rfl rfl (qK rfl rfl rfl rfl (qK rfl rfl rfl rfl (qX rfl rfl rfl rfl (qL (k:=0) rfl rfl rfl rfl υ'146 rfl ζ'25 rfl ?_))))
 refine qL (k:=0) rfl rfl rfl rfl υ'25 rfl ζ'3 rfl ?_
 refine qP (j:=0) rfl rfl rfl rfl α'3 Tk Az (by rfl) ?_
 refine qM rfl rfl rfl rfl rfl rfl Try.call81 (asked_spec _ t x.th) Ts ?_
 rintro ⟨⟩ -
 try simp only [List.cons_append,List.nil_append]
 refine qH (q:=5) rfl rfl rfl α'142 Tk Az (by rfl) ?_
 refine ag_lookup1 (ek:=ekZ) (ev1:=ev3) (F:=Fs) (m:=m1) (k:=t) (0,0,0) rfl rfl (by first | rfl | (rw [hR.st])) rfl rfl υ'142 (cW υ'3) ω'107 Tk ?_
 refine qV (kR (j:=0) rfl rfl rfl rfl ζ'107 (us:=[_,_,_]) rfl rfl rfl Tk Az (by first | decide | (simp;done) | omega) ?_)
 simp only [setL,List.set]
 refine qV (qR rfl rfl rfl rfl (qS (qW [4,5] (e':=[(4,_),(5,_)]) rfl ?_)))
 refine qQ (qJ (ck_fold (b:=b) x (pa:=pa) (pc:=pc) (m1:=m1) (m2:=m2) (oa:=oa) (oc:=oc) Ts (by rfl) (by rfl) (hR) ?_))
 refine retL (us:=[_,_]) rfl ⟨rv_cellN rfl α'107 ζ'107 Tk 0 rfl (us:=[_,_,_]) rfl rfl,rv_tmp rfl,trivial⟩ (()) (by first | rfl | (first | rfl | (congr 1;done) | (congr 1 <;> first | rfl | omega | (simp;done) | (simp;omega)))) (by trivial) ?_
 exact Tf
end Go.Ab.Fe
set_option linter.unusedVariables false
set_option linter.unusedSimpArgs false
set_option maxRecDepth 100000
namespace Go.Ab.Fe
open Go Go.Proofs Go.Ab
theorem rds_nil {α:Type} {A:HProp} {ao:Option Addr} {sz:Nat} {enc:α→List Value} {xs:List α} (h:RdS A ao (xs.flatMap enc)) (hsz:∀ x,(enc x).length=sz+1) (hn:ao=none):xs=[]:=by
  rcases h with h | ⟨b,o,h,-⟩
  · have:=flat_len hsz xs
    rw [h,List.length_nil] at this
    have h2:xs.length=0:=by
      rcases Nat.mul_eq_zero.1 this.symm with h3 | h3
      · exact h3
      · omega
    exact List.eq_nil_of_length_eq_zero h2
  · rw [hn] at h;cases h
theorem rel_new {th va vo lk:Int} {pl:List Int} (h:OkS th va vo lk pl):RelC (upd (noF:Int→Option T3) 0 (some (1,0,0))) (noF:Int→Option Int) (newF th va vo lk pl):=by
  have h1:=h.th
  have h2:=h.lk
  refine ⟨fun t=>?_,fun l=>?_⟩
  · have e:=stF_set (x:=⟨th,va,vo,lk,pl,List.replicate th.toNat (0,0,0),List.replicate lk.toNat (-1),List.replicate pl.length (0,0),0⟩) (t:=0) (s:=(1,0,0)) (Int.le_refl _) (by simp;omega) rfl (th:=th) (va:=va) (vo:=vo) (lk:=lk) (pa:=pl) (O:=List.replicate lk.toNat (-1)) (B:=List.replicate pl.length (0,0)) (n:=0) t
    rw [newF]
    refine Eq.trans ?_ e.symm
    unfold upd
    split
    · rfl
    · unfold stF noF
      split
      · rfl
      · rcases getD_mem' (List.replicate th.toNat ((0,0,0):T3)) t.toNat (0,0,0) with h | h
        · exact h.symm
        · exact (List.mem_replicate.1 h).2.symm
  · have h3:owV (newF th va vo lk pl) l=-1:=by
      unfold owV newF
      split
      · rfl
      · rcases getD_mem' (List.replicate lk.toNat (-1:Int)) l.toNat (-1) with h | h
        · exact h
        · exact (List.mem_replicate.1 h).2
    unfold owF;rw [if_pos h3];rfl
theorem clonez_spec (xs:List Int) (ao:Option Addr) (n c:Nat) (A:HProp) (hn:xs.length=n) (hr:RdS A ao (xs.flatMap encZ)) (hb:xs.length≤4000000000):Spec Try.prog 28 [.slice ao n c] [A] (fun (r:Option Addr × Nat)=>.slice r.1 n r.2) (fun r=>True) (fun r=>[A,own 1 encZ r.1 r.2 xs]):=by
 refine kP (n:=8) Try.func28 rfl rfl rfl ?_
 intro Γ w0
 simp only [argE,List.cons_append,List.nil_append,Nat.zero_add,Nat.reduceAdd]
 refine qG (qC (.q 0 (.done)) Kr ?_)
 refine qR rfl rfl rfl rfl (qS (qQ (qG (qG (qC (.q 0 (.q 1 (.done))) Kr ?_)))))
 refine qK rfl rfl rfl rfl (q_eq_nils rfl rfl rfl rfl υ'23 ?_)
 refine qS (qQ ?_)
 refine c_cond rfl (fun hno=>?_) (fun hno=>?_)
 ·
  try simp only [Bool.and_eq_true,Bool.or_eq_true,Bool.not_eq_true',Bool.not_eq_false',Bool.and_eq_false_iff,Bool.or_eq_false_iff,decide_eq_true_eq,decide_eq_false_iff_not] at hno
  have hx:=rds_nil hr encZ_len (by simpa using hno)
  subst hx
  obtain rfl:n=0:=by simpa using hn.symm
  refine kF (fun _ h=>cJ (sz:=1) (enc:=encZ) h) ?_
  refine qG (qC (.q 0 (.done)) Kr ?_)
  refine qR rfl rfl rfl rfl (qS (qQ (qJ (qD (cR rfl rfl ((none,0)) (by first | rfl | (first | rfl | (congr 1;done) | (congr 1 <;> first | rfl | omega | (simp;done) | (simp;omega)))) (by trivial) ?_)))))
  exact Tf
 try simp only [Bool.and_eq_true,Bool.or_eq_true,Bool.not_eq_true',Bool.not_eq_false',Bool.and_eq_false_iff,Bool.or_eq_false_iff,decide_eq_true_eq,decide_eq_false_iff_not] at hno
 refine qF (qQ (qG (qC ((.l 0 [] (.q 1 ((.l 2 [] (.q 3 (.done))))))) Kr ?_)))
 refine l_buildSlice0 rfl rfl rfl rfl υ'23 ζ'3 ?_
 intro b5
 refine qV (qK rfl rfl rfl rfl (cK (A:=cells b5 0 []) Tk ?_))
 refine kF (fun _ h=>own_mk (sz:=1) (enc:=encZ) (xs:=[]) (sp:=[]) (cap:=0) (Nat.le_refl _) rfl h) ?_
 refine sV (sz:=1) (enc:=encZ) (xs:=[]) rfl rfl rfl rfl rfl υ'23 τ'3 rfl rfl rfl (by decide) Tk Tk (by first | rfl | omega | (simp;done) | (simp;omega)) (ys:=xs) (hr) (by rfl) (by exact hn) (encZ_len) (encZ_one) Om (by show _*8≤_;omega) ?_
 intro ao7 cp7
 try simp only [List.nil_append]
 refine qV (qR rfl rfl rfl rfl (qS (qW [2] (e':=[(2,_)]) rfl ?_)))
 refine qQ (qJ (cR rfl rfl ((ao7,cp7)) (by rw [Nat.zero_add]) (by trivial) ?_))
 exact Tf
theorem cloneo_spec (xs:List T2) (ao:Option Addr) (n c:Nat) (A:HProp) (hn:xs.length=n) (hr:RdS A ao (xs.flatMap enc2)) (hb:xs.length≤4000000000):Spec Try.prog 96 [.slice ao n c] [A] (fun (r:Option Addr × Nat)=>.slice r.1 n r.2) (fun r=>True) (fun r=>[A,own 2 enc2 r.1 r.2 xs]):=by
 refine kP (n:=8) Try.func96 rfl rfl rfl ?_
 intro Γ w0
 simp only [argE,List.cons_append,List.nil_append,Nat.zero_add,Nat.reduceAdd]
 refine qG (qC (.q 0 (.done)) Kr ?_)
 refine qR rfl rfl rfl rfl (qS (qQ (qG (qG (qC (.q 0 (.q 1 (.done))) Kr ?_)))))
 refine qK rfl rfl rfl rfl (q_eq_nils rfl rfl rfl rfl υ'144 ?_)
 refine qS (qQ ?_)
 refine c_cond rfl (fun hno=>?_) (fun hno=>?_)
 ·
  try simp only [Bool.and_eq_true,Bool.or_eq_true,Bool.not_eq_true',Bool.not_eq_false',Bool.and_eq_false_iff,Bool.or_eq_false_iff,decide_eq_true_eq,decide_eq_false_iff_not] at hno
  have hx:=rds_nil hr enc2_len (by simpa using hno)
  subst hx
  obtain rfl:n=0:=by simpa using hn.symm
  refine kF (fun _ h=>cJ (sz:=2) (enc:=enc2) h) ?_
  refine qG (qC (.q 0 (.done)) Kr ?_)
  refine qR rfl rfl rfl rfl (qS (qQ (qJ (qD (cR rfl rfl ((none,0)) (by first | rfl | (first | rfl | (congr 1;done) | (congr 1 <;> first | rfl | omega | (simp;done) | (simp;omega)))) (by trivial) ?_)))))
  exact Tf
 try simp only [Bool.and_eq_true,Bool.or_eq_true,Bool.not_eq_true',Bool.not_eq_false',Bool.and_eq_false_iff,Bool.or_eq_false_iff,decide_eq_true_eq,decide_eq_false_iff_not] at hno
 refine qF (qQ (qG (qC ((.l 0 [] (.q 1 ((.l 2 [] (.q 3 (.done))))))) Kr ?_)))
 refine l_buildSlice0 rfl rfl rfl rfl υ'144 ζ'153 ?_
 intro b5
 refine qV (qK rfl rfl rfl rfl (cK (A:=cells b5 0 []) Tk ?_))
 refine kF (fun _ h=>own_mk (sz:=2) (enc:=enc2) (xs:=[]) (sp:=[]) (cap:=0) (Nat.le_refl _) rfl h) ?_
 refine sV (sz:=2) (enc:=enc2) (xs:=[]) rfl rfl rfl rfl rfl υ'144 τ'153 rfl rfl rfl (by decide) Tk Tk (by first | rfl | omega | (simp;done) | (simp;omega)) (ys:=xs) (hr) (by rfl) (by exact hn) (enc2_len) (enc2_one) Om (by show _*16≤_;omega) ?_
 intro ao7 cp7
 try simp only [List.nil_append]
 refine qV (qR rfl rfl rfl rfl (qS (qW [2] (e':=[(2,_)]) rfl ?_)))
 refine qQ (qJ (cR rfl rfl ((ao7,cp7)) (by rw [Nat.zero_add]) (by trivial) ?_))
 exact Tf
theorem mclone0_spec (m:Nat) (F:Int→Option T3):Spec Try.prog 94 [.map (some m)] [mapO ekZ ev3 m F] (fun (r:Nat)=>.map (some r)) (fun r=>True) (fun r=>[mapO ekZ ev3 r F,mapO ekZ ev3 m F]):=by
 refine kP (n:=9) Try.func94 rfl rfl rfl ?_
 intro Γ w0
 simp only [argE,List.cons_append,List.nil_append,Nat.zero_add,Nat.reduceAdd]
 refine qG (qC (.q 0 (.done)) Kr ?_)
 refine qR rfl rfl rfl rfl (qS (qQ (qG (qG (qC (.q 0 (.q 1 (.done))) Kr ?_)))))
 refine qK rfl rfl rfl rfl (q_eq_nilm rfl rfl rfl rfl υ'142 ?_)
 refine kH 4 rfl (v':=.bool false) rfl ?_
 refine qS (qQ (kB rfl ?_))
 refine qF (qQ (qG (qC (.q 0 (.q 1 ((.l 2 [] ((.l 3 [] (.q 4 (.done)))))))) Kr ?_)))
 refine qK rfl rfl rfl rfl (q_iface rfl rfl rfl rfl υ'142 ?_)
 refine l_mapClone (ek:=ekZ) (ev1:=ev3) (F:=F) (m:=m) rfl rfl rfl rfl Try.func104 rfl rfl Kr Kr Tk ?_
 intro mq
 refine qV (l_assert rfl rfl rfl rfl υ'142 ?_)
 refine qV (qR rfl rfl rfl rfl (qS (qW [2] (e':=[(2,_)]) rfl ?_)))
 refine qQ (qJ (cR rfl rfl (mq) (by first | rfl | (first | rfl | (congr 1;done) | (congr 1 <;> first | rfl | omega | (simp;done) | (simp;omega)))) (by trivial) ?_))
 exact Tf
theorem mclone1_spec (m:Nat) (F:Int→Option Int):Spec Try.prog 95 [.map (some m)] [mapO ekZ ekZ m F] (fun (r:Nat)=>.map (some r)) (fun r=>True) (fun r=>[mapO ekZ ekZ r F,mapO ekZ ekZ m F]):=by
 refine kP (n:=9) Try.func95 rfl rfl rfl ?_
 intro Γ w0
 simp only [argE,List.cons_append,List.nil_append,Nat.zero_add,Nat.reduceAdd]
 refine qG (qC (.q 0 (.done)) Kr ?_)
 refine qR rfl rfl rfl rfl (qS (qQ (qG (qG (qC (.q 0 (.q 1 (.done))) Kr ?_)))))
 refine qK rfl rfl rfl rfl (q_eq_nilm rfl rfl rfl rfl υ'143 ?_)
 refine kH 4 rfl (v':=.bool false) rfl ?_
 refine qS (qQ (kB rfl ?_))
 refine qF (qQ (qG (qC (.q 0 (.q 1 ((.l 2 [] ((.l 3 [] (.q 4 (.done)))))))) Kr ?_)))
 refine qK rfl rfl rfl rfl (q_iface rfl rfl rfl rfl υ'143 ?_)
 refine l_mapClone (ek:=ekZ) (ev1:=ekZ) (F:=F) (m:=m) rfl rfl rfl rfl Try.func104 rfl rfl Kr Kr Tk ?_
 intro mq
 refine qV (l_assert rfl rfl rfl rfl υ'143 ?_)
 refine qV (qR rfl rfl rfl rfl (qS (qW [2] (e':=[(2,_)]) rfl ?_)))
 refine qQ (qJ (cR rfl rfl (mq) (by first | rfl | (first | rfl | (congr 1;done) | (congr 1 <;> first | rfl | omega | (simp;done) | (simp;omega)))) (by trivial) ?_))
 exact Tf
theorem copy_spec (pa:Option Addr) (pc b:Nat) (x:CS) (hx:CInv x):Spec Try.prog 63 [.pointer (some ⟨b,0,none⟩)] [ck pa pc b x] (fun (r:Nat)=>.pointer (some ⟨r,0,none⟩)) (fun r=>True) (fun r=>[ck pa pc b x,ck pa pc r x]):=by
 refine kP (n:=27) Try.func63 rfl rfl rfl ?_
 intro Γ w0
 simp only [argE,List.cons_append,List.nil_append,Nat.zero_add,Nat.reduceAdd]
 have hbl:x.B.length≤4096:=by rw [hx.bl];exact hx.sh.pl
 refine qG (qC (.q 0 (.done)) Kr ?_)
 refine qR rfl rfl rfl rfl (qS (qQ (qG (qG (qC (.q 0 ((.l 1 [] (.done)))) Kr ?_)))))
 refine qK rfl rfl rfl rfl ?_
 have sp_1:=none_spec pa pc b x
 refine qM rfl rfl rfl rfl rfl rfl κ'80 (sp_1) Ts ?_
 rintro ⟨⟩ -
 try simp only [List.cons_append,List.nil_append]
 refine qV (qS (qQ (kB rfl ?_)))
 refine qF (qQ (qG (cK (A:=ck pa pc b x) Tk ?_)))
 refine ck_open fun m1 m2 Fs Fo oa oc hR=>?_
 refine qC (.q 0 (.q 1 (.q 2 ((.l 3 [] ((.l 4 [] (.done)))))))) Kr ?_
 refine qK rfl rfl rfl rfl (qX rfl rfl rfl rfl (kN rfl rfl rfl rfl Try.isAgg146 Try.sizeOf146 Tk 0 (us:=[_,_,_,_,_,_,_,_,_]) Az rfl rfl ?_))
 refine cF rfl rfl rfl ω'146 (zs:=[.int .i64 0,.int .i64 0,.int .i64 0,.int .i64 0,.slice none 0 0,.map none,.map none,.slice none 0 0,.int .i64 0]) rfl ?_
 intro b3
 refine qV (kR (j:=0) rfl rfl rfl rfl Try.sizeOf146 (us:=[_,_,_,_,_,_,_,_,_]) rfl rfl rfl Tk Az (by first | decide | (simp;done) | omega) ?_)
 simp only [setL,List.set]
 refine qV (qS (qW [0,3] (e':=[(0,_),(3,_)]) rfl ?_))
 refine qQ (qG (kX rfl (.q 0 (.q 1 (.q 2 (.q 3 (.q 5 (.q 6 (.q 7 (.q 8 (.q 10 (.q 11 (.q 12 (.q 13 ((.l 4 [8,13] ((.l 9 [13] ((.l 14 [] (.q 15 ((.l 16 [] (.q 17 ((.l 18 [] (.q 19 ((.l 20 [] (.done)))))))))))))))))))))))))))) Kr ?_))
 refine qK rfl rfl rfl rfl (qX rfl rfl rfl rfl (qL (k:=5) rfl rfl rfl rfl υ'146 rfl ζ'142 rfl ?_))
 refine qP (j:=5) rfl rfl rfl rfl α'142 Tk Az (by rfl) ?_
 refine qK rfl rfl rfl rfl (qX rfl rfl rfl rfl (qL (k:=6) rfl rfl rfl rfl υ'146 rfl ζ'143 rfl ?_))
 refine qP (j:=6) rfl rfl rfl rfl α'143 Tk Az (by rfl) ?_
 refine qK rfl rfl rfl rfl (qX rfl rfl rfl rfl (qL (k:=7) rfl rfl rfl rfl υ'146 rfl ζ'144 rfl ?_))
 refine qP (j:=7) rfl rfl rfl rfl α'144 Tk Az (by rfl) ?_
 have sp_2:=mclone0_spec m1 Fs
 refine qM rfl rfl rfl rfl rfl rfl Try.call94 (sp_2) Ts ?_
 rintro n1 -
 try simp only [List.cons_append,List.nil_append]
 refine qH (q:=6) rfl rfl rfl α'143 Tk Az (by rfl) ?_
 refine qH (q:=7) rfl rfl rfl α'144 Tk Az (by rfl) ?_
 refine qV ?_
 have sp_3:=mclone1_spec m2 Fo
 refine qM rfl rfl rfl rfl rfl rfl Try.call95 (sp_3) Ts ?_
 rintro n2 -
 try simp only [List.cons_append,List.nil_append]
 refine qH (q:=7) rfl rfl rfl α'144 Tk Az (by rfl) ?_
 refine qV (cK (A:=own 2 enc2 oa oc x.B) Tk ?_)
 refine rQ fun f_4a f_4b f_4c=>?_
 have sp_5:=cloneo_spec x.B oa x.B.length oc (own 2 enc2 oa oc x.B) (by rfl) (sD enc2_len (fun h=>(f_4b h).1) f_4c) Om
 refine qM rfl rfl rfl rfl rfl rfl Try.call96 (sp_5) Ts ?_
 rintro ⟨o2a,o2c⟩ -
 try simp only [List.cons_append,List.nil_append]
 refine qV (qL (k:=5) rfl rfl rfl rfl υ'146 rfl ζ'142 rfl ?_)
 refine kR (j:=5) rfl rfl rfl rfl ζ'142 (us:=[_]) rfl rfl rfl Tk Az (by first | decide | (simp;done) | omega) ?_
 simp only [setL,List.set]
 refine qV (qL (k:=6) rfl rfl rfl rfl υ'146 rfl ζ'143 rfl ?_)
 refine kR (j:=6) rfl rfl rfl rfl ζ'143 (us:=[_]) rfl rfl rfl Tk Az (by first | decide | (simp;done) | omega) ?_
 simp only [setL,List.set]
 refine qV (qL (k:=7) rfl rfl rfl rfl υ'146 rfl ζ'144 rfl ?_)
 refine kR (j:=7) rfl rfl rfl rfl ζ'144 (us:=[_]) rfl rfl rfl Tk Az (by first | decide | (simp;done) | omega) ?_
 simp only [setL,List.set]
 refine qV (qS (qW [3] (e':=[(3,_)]) rfl ?_))
 refine qQ (qG (qC (.q 0 (.done)) Kr ?_))
 refine qR rfl rfl rfl rfl (qS (qQ (qJ (ck_fold (b:=b) x (pa:=pa) (pc:=pc) (m1:=m1) (m2:=m2) (oa:=oa) (oc:=oc) Ts (by rfl) (by rfl) (hR) ?_))))
 refine ck_fold (b:=b3) x (pa:=pa) (pc:=pc) (m1:=n1) (m2:=n2) (oa:=o2a) (oc:=o2c) Ts (by rfl) (by rfl) (hR) ?_
 refine cR rfl rfl (b3) (by first | rfl | (first | rfl | (congr 1;done) | (congr 1 <;> first | rfl | omega | (simp;done) | (simp;omega)))) (by trivial) ?_
 exact Tf
theorem new_spec (th va vo lk:Int) (pl:List Int) (ao:Option Addr) (n c:Nat) (A:HProp) (hr:RdS A ao (pl.flatMap encZ)) (hn:pl.length=n) (hb:n≤4000000) (hok:OkS th va vo lk pl):Spec Try.prog 27 [.agg #[.int .i64 th,.int .i64 va,.int .i64 vo,.int .i64 lk,.slice ao n c]] [A] (fun (r:Nat × Option Addr × Nat)=>.tuple #[.pointer (some ⟨r.1,0,none⟩),.int .i64 0]) (fun r=>True) (fun r=>[A,own 1 encZ r.2.1 r.2.2 pl,ck r.2.1 r.2.2 r.1 (newF th va vo lk pl)]):=by
 refine kP (n:=25) Try.func27 rfl rfl rfl ?_
 intro Γ w0
 simp only [argE,List.cons_append,List.nil_append,Nat.zero_add,Nat.reduceAdd]
 refine qG (qC ((.l 0 [] (.q 1 (.q 2 (.done))))) Kr ?_)
 refine sX rfl rfl rfl rfl (us:=[_,_,_,_,_]) rfl ?_
 intro b1
 refine qV (qR rfl rfl rfl rfl (qR rfl rfl rfl rfl (qS (qQ (qG (qG (qC (.q 0 ((.l 1 [] (.q 2 (.done))))) Kr ?_)))))))
 refine kN rfl rfl rfl rfl α'25 ζ'25 Tk 0 (us:=[_,_,_,_,_]) Az rfl rfl ?_
 have sp_1:=shape_spec th va vo lk pl ao n c A (hr) Ln Om
 refine qM rfl rfl rfl rfl rfl rfl Try.call71 (sp_1) Ts ?_
 rintro ⟨⟩ -
 try simp only [List.cons_append,List.nil_append]
 refine qV (kH 6 rfl (v':=.int .i64 0) (by rw [if_pos hok]) ?_)
 refine qR rfl rfl rfl rfl (qS (qW [1,4] (e':=[(1,_),(4,_)]) rfl ?_))
 refine qQ (qG (qC (.q 0 (.q 1 (.done))) Kr ?_))
 refine qK rfl rfl rfl rfl (qN rfl rfl rfl rfl rfl (b_neq _ _ _ _) ?_)
 refine kH 8 rfl (v':=.bool false) (by first | rfl | simp) ?_
 refine qS (qQ (kB rfl ?_))
 refine qF (qQ (qG (qC (.q 0 (.q 1 ((.l 2 [] (.q 3 ((.l 4 [] (.done)))))))) Kr ?_)))
 refine qL (k:=4) rfl rfl rfl rfl υ'25 rfl ζ'23 rfl ?_
 refine qP (j:=4) rfl rfl rfl rfl α'23 Tk Az (by rfl) ?_
 have sp_2:=clonez_spec pl ao n c A Ln (hr) Om
 refine qM rfl rfl rfl rfl rfl rfl Try.call28 (sp_2) Ts ?_
 rintro ⟨qa,qc⟩ -
 try simp only [List.cons_append,List.nil_append]
 refine qV (qL (k:=4) rfl rfl rfl rfl υ'25 rfl ζ'23 rfl ?_)
 refine kR (j:=4) rfl rfl rfl rfl ζ'23 (us:=[_]) rfl rfl rfl Tk Az (by first | decide | (simp;done) | omega) ?_
 simp only [setL,List.set]
 refine qV (qS (qW [1] (e':=[(1,_)]) rfl ?_))
 refine qQ (qG (kX rfl (.q 0 (.q 2 (.q 6 (.q 7 (.q 8 ((.alt (.l 1 [0,7,8] ((.alt (.l 3 [0,7,8] (.q 4 ((.alt (.l 5 [0,7,8] ((.l 9 [0] (.q 10 ((.l 11 [] (.q 12 (.q 13 (.done))))))))) (.l 9 [0] ((.l 5 [0] (.q 10 ((.l 11 [] (.q 12 (.q 13 (.done))))))))))))) (.alt (.l 5 [0,7,8] ((.alt (.l 3 [0,7,8] (.q 4 ((.l 9 [0] (.q 10 ((.l 11 [] (.q 12 (.q 13 (.done)))))))))) (.l 9 [0] ((.l 3 [0] (.q 4 (.q 10 ((.l 11 [] (.q 12 (.q 13 (.done))))))))))))) (.l 9 [0] ((.alt (.l 3 [0] (.q 4 ((.l 5 [0] (.q 10 ((.l 11 [] (.q 12 (.q 13 (.done)))))))))) (.l 5 [0] ((.l 3 [0] (.q 4 (.q 10 ((.l 11 [] (.q 12 (.q 13 (.done))))))))))))))))) (.alt (.l 5 [0,7,8] ((.alt (.l 1 [0,7,8] ((.alt (.l 3 [0,7,8] (.q 4 ((.l 9 [0] (.q 10 ((.l 11 [] (.q 12 (.q 13 (.done)))))))))) (.l 9 [0] ((.l 3 [0] (.q 4 (.q 10 ((.l 11 [] (.q 12 (.q 13 (.done))))))))))))) (.l 9 [0] ((.l 1 [0] ((.l 3 [0] (.q 4 (.q 10 ((.l 11 [] (.q 12 (.q 13 (.done))))))))))))))) (.l 9 [0] ((.alt (.l 1 [0] ((.alt (.l 3 [0] (.q 4 ((.l 5 [0] (.q 10 ((.l 11 [] (.q 12 (.q 13 (.done)))))))))) (.l 5 [0] ((.l 3 [0] (.q 4 (.q 10 ((.l 11 [] (.q 12 (.q 13 (.done))))))))))))) (.l 5 [0] ((.l 1 [0] ((.l 3 [0] (.q 4 (.q 10 ((.l 11 [] (.q 12 (.q 13 (.done))))))))))))))))))))))) Kr ?_))
 refine kN rfl rfl rfl rfl α'25 ζ'25 Tk 0 (us:=[_,_,_,_,_]) Az rfl rfl ?_
 refine cX rfl rfl rfl rfl (vs:=[_,_,_]) (kM υ'107 ω'107 (ps:=[(0,1),(1,1),(2,1)]) ⟨rfl,ζ'105,rfl,ζ'3,rfl,ζ'3,trivial⟩ rfl) ?_
 refine qL (k:=4) rfl rfl rfl rfl υ'25 rfl ζ'23 rfl ?_
 refine qP (j:=4) rfl rfl rfl rfl α'23 Tk Az (by rfl) ?_
 refine cH rfl rfl rfl rfl υ'23 ?_
 refine r_alt ?_ ?_
 ·
  refine rK Int T3 ekZ ev3 rfl rfl rfl ?_
  intro m15
  refine cZ rfl rfl (us:=[_,_,_,_,_]) rfl α'25 ζ'25 Tk 0 Az rfl rfl ?_
  refine qH (q:=4) rfl rfl rfl α'23 Tk Az (by rfl) ?_
  refine ag_len rfl rfl rfl υ'23 ?_
  refine qV ?_
  refine r_alt ?_ ?_
  ·
   refine sF (ek:=ekZ) (ev1:=ev3) (F:=(noF:Int→Option T3)) (m:=m15) (k:=0) (v:=(1,0,0)) (by first | exact .inl rfl | exact .inr rfl) rfl rfl rfl rfl υ'142 (cW υ'3) Tk ?_
   refine cZ rfl rfl (us:=[_,_,_,_,_]) rfl α'25 ζ'25 Tk 0 Az rfl rfl ?_
   refine qH (q:=4) rfl rfl rfl α'23 Tk Az (by rfl) ?_
   refine ag_len rfl rfl rfl υ'23 ?_
   refine qV (qK rfl rfl rfl rfl ?_)
   refine r_alt ?_ ?_
   ·
    refine rK Int Int ekZ ekZ rfl rfl rfl ?_
    intro m18
    refine cZ rfl rfl (us:=[_,_,_,_,_]) rfl α'25 ζ'25 Tk 0 Az rfl rfl ?_
    refine qH (q:=4) rfl rfl rfl α'23 Tk Az (by rfl) ?_
    refine ag_len rfl rfl rfl υ'23 ?_
    refine qV (l_make (sz:=2) (enc:=enc2) (len:=n) (cap:=n) ((0,0)) rfl rfl rfl rfl rfl (by first | rfl | omega) (by first | rfl | omega) υ'144 τ'153 rfl rfl rfl (by decide) Om Om (by show 16*_≤_;omega) (by rfl) (enc2_len) ?_)
    intro b22
    refine cZ rfl rfl (us:=[_,_,_,_,_]) rfl α'25 ζ'25 Tk 0 Az rfl rfl ?_
    refine qV (cX rfl rfl rfl rfl (vs:=[_,_,_,_,_,_,_,_,_]) (kM υ'146 ω'146 (ps:=[(0,5),(5,1),(6,1),(7,1),(8,1)]) ⟨rfl,ζ'25,rfl,ζ'142,rfl,ζ'143,rfl,ζ'144,rfl,ζ'3,trivial⟩ rfl) ?_)
    refine sX rfl rfl rfl rfl (us:=[_,_,_,_,_,_,_,_,_]) rfl ?_
    intro b24
    refine qV (qR rfl rfl rfl rfl (qR rfl rfl rfl rfl (qS (qW [2,3] (e':=[(2,_),(3,_)]) rfl ?_))))
    refine qQ (qJ ?_)
    have hbl:(newF th va vo lk pl).B.length=n:=by rw [← hn];simp [newF]
    rw [show (List.replicate n ((0:Int),(0:Int)):List T2)=(newF th va vo lk pl).B from by rw [← hn];rfl]
    refine ck_fold (b:=b24) (newF th va vo lk pl) (pa:=qa) (pc:=qc) (m1:=m15) (m2:=m18) (oa:=some ⟨b22,0,none⟩) (oc:=n) Ts (by rw [← hn];rfl) (by exact hbl.symm) (rel_new hok) ?_
    refine ret2 rfl rfl rfl ((b24,qa,qc)) (by first | rfl | (first | rfl | (congr 1;done) | (congr 1 <;> first | rfl | omega | (simp;done) | (simp;omega)))) (by trivial) ?_
    exact Tf
   refine l_make (sz:=2) (enc:=enc2) (len:=n) (cap:=n) ((0,0)) rfl rfl rfl rfl rfl (by first | rfl | omega) (by first | rfl | omega) υ'144 τ'153 rfl rfl rfl (by decide) Om Om (by show 16*_≤_;omega) (by rfl) (enc2_len) ?_
   intro b22
   refine cZ rfl rfl (us:=[_,_,_,_,_]) rfl α'25 ζ'25 Tk 0 Az rfl rfl ?_
   refine qV (rK Int Int ekZ ekZ rfl rfl rfl ?_)
   intro m18
   refine cZ rfl rfl (us:=[_,_,_,_,_]) rfl α'25 ζ'25 Tk 0 Az rfl rfl ?_
   refine qV (cX rfl rfl rfl rfl (vs:=[_,_,_,_,_,_,_,_,_]) (kM υ'146 ω'146 (ps:=[(0,5),(5,1),(6,1),(7,1),(8,1)]) ⟨rfl,ζ'25,rfl,ζ'142,rfl,ζ'143,rfl,ζ'144,rfl,ζ'3,trivial⟩ rfl) ?_)
   refine sX rfl rfl rfl rfl (us:=[_,_,_,_,_,_,_,_,_]) rfl ?_
   intro b24
   refine qV (qR rfl rfl rfl rfl (qR rfl rfl rfl rfl (qS (qW [2,3] (e':=[(2,_),(3,_)]) rfl ?_))))
   refine qQ (qJ ?_)
   have hbl:(newF th va vo lk pl).B.length=n:=by rw [← hn];simp [newF]
   rw [show (List.replicate n ((0:Int),(0:Int)):List T2)=(newF th va vo lk pl).B from by rw [← hn];rfl]
   refine ck_fold (b:=b24) (newF th va vo lk pl) (pa:=qa) (pc:=qc) (m1:=m15) (m2:=m18) (oa:=some ⟨b22,0,none⟩) (oc:=n) Ts (by rw [← hn];rfl) (by exact hbl.symm) (rel_new hok) ?_
   refine ret2 rfl rfl rfl ((b24,qa,qc)) (by first | rfl | (first | rfl | (congr 1;done) | (congr 1 <;> first | rfl | omega | (simp;done) | (simp;omega)))) (by trivial) ?_
   exact Tf
  refine r_alt ?_ ?_
  ·
   refine rK Int Int ekZ ekZ rfl rfl rfl ?_
   intro m18
   refine cZ rfl rfl (us:=[_,_,_,_,_]) rfl α'25 ζ'25 Tk 0 Az rfl rfl ?_
   refine qH (q:=4) rfl rfl rfl α'23 Tk Az (by rfl) ?_
   refine ag_len rfl rfl rfl υ'23 ?_
   refine qV ?_
   refine r_alt ?_ ?_
   ·
    refine sF (ek:=ekZ) (ev1:=ev3) (F:=(noF:Int→Option T3)) (m:=m15) (k:=0) (v:=(1,0,0)) (by first | exact .inl rfl | exact .inr rfl) rfl rfl rfl rfl υ'142 (cW υ'3) Tk ?_
    refine cZ rfl rfl (us:=[_,_,_,_,_]) rfl α'25 ζ'25 Tk 0 Az rfl rfl ?_
    refine qH (q:=4) rfl rfl rfl α'23 Tk Az (by rfl) ?_
    refine ag_len rfl rfl rfl υ'23 ?_
    refine qV (qK rfl rfl rfl rfl (l_make (sz:=2) (enc:=enc2) (len:=n) (cap:=n) ((0,0)) rfl rfl rfl rfl rfl (by first | rfl | omega) (by first | rfl | omega) υ'144 τ'153 rfl rfl rfl (by decide) Om Om (by show 16*_≤_;omega) (by rfl) (enc2_len) ?_))
    intro b22
    refine cZ rfl rfl (us:=[_,_,_,_,_]) rfl α'25 ζ'25 Tk 0 Az rfl rfl ?_
    refine qV (cX rfl rfl rfl rfl (vs:=[_,_,_,_,_,_,_,_,_]) (kM υ'146 ω'146 (ps:=[(0,5),(5,1),(6,1),(7,1),(8,1)]) ⟨rfl,ζ'25,rfl,ζ'142,rfl,ζ'143,rfl,ζ'144,rfl,ζ'3,trivial⟩ rfl) ?_)
    refine sX rfl rfl rfl rfl (us:=[_,_,_,_,_,_,_,_,_]) rfl ?_
    intro b24
    refine qV (qR rfl rfl rfl rfl (qR rfl rfl rfl rfl (qS (qW [2,3] (e':=[(2,_),(3,_)]) rfl ?_))))
    refine qQ (qJ ?_)
    have hbl:(newF th va vo lk pl).B.length=n:=by rw [← hn];simp [newF]
    rw [show (List.replicate n ((0:Int),(0:Int)):List T2)=(newF th va vo lk pl).B from by rw [← hn];rfl]
    refine ck_fold (b:=b24) (newF th va vo lk pl) (pa:=qa) (pc:=qc) (m1:=m15) (m2:=m18) (oa:=some ⟨b22,0,none⟩) (oc:=n) Ts (by rw [← hn];rfl) (by exact hbl.symm) (rel_new hok) ?_
    refine ret2 rfl rfl rfl ((b24,qa,qc)) (by first | rfl | (first | rfl | (congr 1;done) | (congr 1 <;> first | rfl | omega | (simp;done) | (simp;omega)))) (by trivial) ?_
    exact Tf
   refine l_make (sz:=2) (enc:=enc2) (len:=n) (cap:=n) ((0,0)) rfl rfl rfl rfl rfl (by first | rfl | omega) (by first | rfl | omega) υ'144 τ'153 rfl rfl rfl (by decide) Om Om (by show 16*_≤_;omega) (by rfl) (enc2_len) ?_
   intro b22
   refine cZ rfl rfl (us:=[_,_,_,_,_]) rfl α'25 ζ'25 Tk 0 Az rfl rfl ?_
   refine qV (sF (ek:=ekZ) (ev1:=ev3) (F:=(noF:Int→Option T3)) (m:=m15) (k:=0) (v:=(1,0,0)) (by first | exact .inl rfl | exact .inr rfl) rfl rfl rfl rfl υ'142 (cW υ'3) Tk ?_)
   refine cZ rfl rfl (us:=[_,_,_,_,_]) rfl α'25 ζ'25 Tk 0 Az rfl rfl ?_
   refine qV (qK rfl rfl rfl rfl (cX rfl rfl rfl rfl (vs:=[_,_,_,_,_,_,_,_,_]) (kM υ'146 ω'146 (ps:=[(0,5),(5,1),(6,1),(7,1),(8,1)]) ⟨rfl,ζ'25,rfl,ζ'142,rfl,ζ'143,rfl,ζ'144,rfl,ζ'3,trivial⟩ rfl) ?_))
   refine sX rfl rfl rfl rfl (us:=[_,_,_,_,_,_,_,_,_]) rfl ?_
   intro b24
   refine qV (qR rfl rfl rfl rfl (qR rfl rfl rfl rfl (qS (qW [2,3] (e':=[(2,_),(3,_)]) rfl ?_))))
   refine qQ (qJ ?_)
   have hbl:(newF th va vo lk pl).B.length=n:=by rw [← hn];simp [newF]
   rw [show (List.replicate n ((0:Int),(0:Int)):List T2)=(newF th va vo lk pl).B from by rw [← hn];rfl]
   refine ck_fold (b:=b24) (newF th va vo lk pl) (pa:=qa) (pc:=qc) (m1:=m15) (m2:=m18) (oa:=some ⟨b22,0,none⟩) (oc:=n) Ts (by rw [← hn];rfl) (by exact hbl.symm) (rel_new hok) ?_
   refine ret2 rfl rfl rfl ((b24,qa,qc)) (by first | rfl | (first | rfl | (congr 1;done) | (congr 1 <;> first | rfl | omega | (simp;done) | (simp;omega)))) (by trivial) ?_
   exact Tf
  refine l_make (sz:=2) (enc:=enc2) (len:=n) (cap:=n) ((0,0)) rfl rfl rfl rfl rfl (by first | rfl | omega) (by first | rfl | omega) υ'144 τ'153 rfl rfl rfl (by decide) Om Om (by show 16*_≤_;omega) (by rfl) (enc2_len) ?_
  intro b22
  refine cZ rfl rfl (us:=[_,_,_,_,_]) rfl α'25 ζ'25 Tk 0 Az rfl rfl ?_
  refine qV ?_
  refine r_alt ?_ ?_
  ·
   refine sF (ek:=ekZ) (ev1:=ev3) (F:=(noF:Int→Option T3)) (m:=m15) (k:=0) (v:=(1,0,0)) (by first | exact .inl rfl | exact .inr rfl) rfl rfl rfl rfl υ'142 (cW υ'3) Tk ?_
   refine cZ rfl rfl (us:=[_,_,_,_,_]) rfl α'25 ζ'25 Tk 0 Az rfl rfl ?_
   refine qV (qK rfl rfl rfl rfl (rK Int Int ekZ ekZ rfl rfl rfl ?_))
   intro m18
   refine cZ rfl rfl (us:=[_,_,_,_,_]) rfl α'25 ζ'25 Tk 0 Az rfl rfl ?_
   refine qV (cX rfl rfl rfl rfl (vs:=[_,_,_,_,_,_,_,_,_]) (kM υ'146 ω'146 (ps:=[(0,5),(5,1),(6,1),(7,1),(8,1)]) ⟨rfl,ζ'25,rfl,ζ'142,rfl,ζ'143,rfl,ζ'144,rfl,ζ'3,trivial⟩ rfl) ?_)
   refine sX rfl rfl rfl rfl (us:=[_,_,_,_,_,_,_,_,_]) rfl ?_
   intro b24
   refine qV (qR rfl rfl rfl rfl (qR rfl rfl rfl rfl (qS (qW [2,3] (e':=[(2,_),(3,_)]) rfl ?_))))
   refine qQ (qJ ?_)
   have hbl:(newF th va vo lk pl).B.length=n:=by rw [← hn];simp [newF]
   rw [show (List.replicate n ((0:Int),(0:Int)):List T2)=(newF th va vo lk pl).B from by rw [← hn];rfl]
   refine ck_fold (b:=b24) (newF th va vo lk pl) (pa:=qa) (pc:=qc) (m1:=m15) (m2:=m18) (oa:=some ⟨b22,0,none⟩) (oc:=n) Ts (by rw [← hn];rfl) (by exact hbl.symm) (rel_new hok) ?_
   refine ret2 rfl rfl rfl ((b24,qa,qc)) (by first | rfl | (first | rfl | (congr 1;done) | (congr 1 <;> first | rfl | omega | (simp;done) | (simp;omega)))) (by trivial) ?_
   exact Tf
  refine rK Int Int ekZ ekZ rfl rfl rfl ?_
  intro m18
  refine cZ rfl rfl (us:=[_,_,_,_,_]) rfl α'25 ζ'25 Tk 0 Az rfl rfl ?_
  refine qV (sF (ek:=ekZ) (ev1:=ev3) (F:=(noF:Int→Option T3)) (m:=m15) (k:=0) (v:=(1,0,0)) (by first | exact .inl rfl | exact .inr rfl) rfl rfl rfl rfl υ'142 (cW υ'3) Tk ?_)
  refine cZ rfl rfl (us:=[_,_,_,_,_]) rfl α'25 ζ'25 Tk 0 Az rfl rfl ?_
  refine qV (qK rfl rfl rfl rfl (cX rfl rfl rfl rfl (vs:=[_,_,_,_,_,_,_,_,_]) (kM υ'146 ω'146 (ps:=[(0,5),(5,1),(6,1),(7,1),(8,1)]) ⟨rfl,ζ'25,rfl,ζ'142,rfl,ζ'143,rfl,ζ'144,rfl,ζ'3,trivial⟩ rfl) ?_))
  refine sX rfl rfl rfl rfl (us:=[_,_,_,_,_,_,_,_,_]) rfl ?_
  intro b24
  refine qV (qR rfl rfl rfl rfl (qR rfl rfl rfl rfl (qS (qW [2,3] (e':=[(2,_),(3,_)]) rfl ?_))))
  refine qQ (qJ ?_)
  have hbl:(newF th va vo lk pl).B.length=n:=by rw [← hn];simp [newF]
  rw [show (List.replicate n ((0:Int),(0:Int)):List T2)=(newF th va vo lk pl).B from by rw [← hn];rfl]
  refine ck_fold (b:=b24) (newF th va vo lk pl) (pa:=qa) (pc:=qc) (m1:=m15) (m2:=m18) (oa:=some ⟨b22,0,none⟩) (oc:=n) Ts (by rw [← hn];rfl) (by exact hbl.symm) (rel_new hok) ?_
  refine ret2 rfl rfl rfl ((b24,qa,qc)) (by first | rfl | (first | rfl | (congr 1;done) | (congr 1 <;> first | rfl | omega | (simp;done) | (simp;omega)))) (by trivial) ?_
  exact Tf
 refine r_alt ?_ ?_
 ·
  refine rK Int Int ekZ ekZ rfl rfl rfl ?_
  intro m18
  refine cZ rfl rfl (us:=[_,_,_,_,_]) rfl α'25 ζ'25 Tk 0 Az rfl rfl ?_
  refine qH (q:=4) rfl rfl rfl α'23 Tk Az (by rfl) ?_
  refine ag_len rfl rfl rfl υ'23 ?_
  refine qV ?_
  refine r_alt ?_ ?_
  ·
   refine rK Int T3 ekZ ev3 rfl rfl rfl ?_
   intro m15
   refine cZ rfl rfl (us:=[_,_,_,_,_]) rfl α'25 ζ'25 Tk 0 Az rfl rfl ?_
   refine qH (q:=4) rfl rfl rfl α'23 Tk Az (by rfl) ?_
   refine ag_len rfl rfl rfl υ'23 ?_
   refine qV ?_
   refine r_alt ?_ ?_
   ·
    refine sF (ek:=ekZ) (ev1:=ev3) (F:=(noF:Int→Option T3)) (m:=m15) (k:=0) (v:=(1,0,0)) (by first | exact .inl rfl | exact .inr rfl) rfl rfl rfl rfl υ'142 (cW υ'3) Tk ?_
    refine cZ rfl rfl (us:=[_,_,_,_,_]) rfl α'25 ζ'25 Tk 0 Az rfl rfl ?_
    refine qH (q:=4) rfl rfl rfl α'23 Tk Az (by rfl) ?_
    refine ag_len rfl rfl rfl υ'23 ?_
    refine qV (qK rfl rfl rfl rfl (l_make (sz:=2) (enc:=enc2) (len:=n) (cap:=n) ((0,0)) rfl rfl rfl rfl rfl (by first | rfl | omega) (by first | rfl | omega) υ'144 τ'153 rfl rfl rfl (by decide) Om Om (by show 16*_≤_;omega) (by rfl) (enc2_len) ?_))
    intro b22
    refine cZ rfl rfl (us:=[_,_,_,_,_]) rfl α'25 ζ'25 Tk 0 Az rfl rfl ?_
    refine qV (cX rfl rfl rfl rfl (vs:=[_,_,_,_,_,_,_,_,_]) (kM υ'146 ω'146 (ps:=[(0,5),(5,1),(6,1),(7,1),(8,1)]) ⟨rfl,ζ'25,rfl,ζ'142,rfl,ζ'143,rfl,ζ'144,rfl,ζ'3,trivial⟩ rfl) ?_)
    refine sX rfl rfl rfl rfl (us:=[_,_,_,_,_,_,_,_,_]) rfl ?_
    intro b24
    refine qV (qR rfl rfl rfl rfl (qR rfl rfl rfl rfl (qS (qW [2,3] (e':=[(2,_),(3,_)]) rfl ?_))))
    refine qQ (qJ ?_)
    have hbl:(newF th va vo lk pl).B.length=n:=by rw [← hn];simp [newF]
    rw [show (List.replicate n ((0:Int),(0:Int)):List T2)=(newF th va vo lk pl).B from by rw [← hn];rfl]
    refine ck_fold (b:=b24) (newF th va vo lk pl) (pa:=qa) (pc:=qc) (m1:=m15) (m2:=m18) (oa:=some ⟨b22,0,none⟩) (oc:=n) Ts (by rw [← hn];rfl) (by exact hbl.symm) (rel_new hok) ?_
    refine ret2 rfl rfl rfl ((b24,qa,qc)) (by first | rfl | (first | rfl | (congr 1;done) | (congr 1 <;> first | rfl | omega | (simp;done) | (simp;omega)))) (by trivial) ?_
    exact Tf
   refine l_make (sz:=2) (enc:=enc2) (len:=n) (cap:=n) ((0,0)) rfl rfl rfl rfl rfl (by first | rfl | omega) (by first | rfl | omega) υ'144 τ'153 rfl rfl rfl (by decide) Om Om (by show 16*_≤_;omega) (by rfl) (enc2_len) ?_
   intro b22
   refine cZ rfl rfl (us:=[_,_,_,_,_]) rfl α'25 ζ'25 Tk 0 Az rfl rfl ?_
   refine qV (sF (ek:=ekZ) (ev1:=ev3) (F:=(noF:Int→Option T3)) (m:=m15) (k:=0) (v:=(1,0,0)) (by first | exact .inl rfl | exact .inr rfl) rfl rfl rfl rfl υ'142 (cW υ'3) Tk ?_)
   refine cZ rfl rfl (us:=[_,_,_,_,_]) rfl α'25 ζ'25 Tk 0 Az rfl rfl ?_
   refine qV (qK rfl rfl rfl rfl (cX rfl rfl rfl rfl (vs:=[_,_,_,_,_,_,_,_,_]) (kM υ'146 ω'146 (ps:=[(0,5),(5,1),(6,1),(7,1),(8,1)]) ⟨rfl,ζ'25,rfl,ζ'142,rfl,ζ'143,rfl,ζ'144,rfl,ζ'3,trivial⟩ rfl) ?_))
   refine sX rfl rfl rfl rfl (us:=[_,_,_,_,_,_,_,_,_]) rfl ?_
   intro b24
   refine qV (qR rfl rfl rfl rfl (qR rfl rfl rfl rfl (qS (qW [2,3] (e':=[(2,_),(3,_)]) rfl ?_))))
   refine qQ (qJ ?_)
   have hbl:(newF th va vo lk pl).B.length=n:=by rw [← hn];simp [newF]
   rw [show (List.replicate n ((0:Int),(0:Int)):List T2)=(newF th va vo lk pl).B from by rw [← hn];rfl]
   refine ck_fold (b:=b24) (newF th va vo lk pl) (pa:=qa) (pc:=qc) (m1:=m15) (m2:=m18) (oa:=some ⟨b22,0,none⟩) (oc:=n) Ts (by rw [← hn];rfl) (by exact hbl.symm) (rel_new hok) ?_
   refine ret2 rfl rfl rfl ((b24,qa,qc)) (by first | rfl | (first | rfl | (congr 1;done) | (congr 1 <;> first | rfl | omega | (simp;done) | (simp;omega)))) (by trivial) ?_
   exact Tf
  refine l_make (sz:=2) (enc:=enc2) (len:=n) (cap:=n) ((0,0)) rfl rfl rfl rfl rfl (by first | rfl | omega) (by first | rfl | omega) υ'144 τ'153 rfl rfl rfl (by decide) Om Om (by show 16*_≤_;omega) (by rfl) (enc2_len) ?_
  intro b22
  refine cZ rfl rfl (us:=[_,_,_,_,_]) rfl α'25 ζ'25 Tk 0 Az rfl rfl ?_
  refine qV (rK Int T3 ekZ ev3 rfl rfl rfl ?_)
  intro m15
  refine cZ rfl rfl (us:=[_,_,_,_,_]) rfl α'25 ζ'25 Tk 0 Az rfl rfl ?_
  refine qV (sF (ek:=ekZ) (ev1:=ev3) (F:=(noF:Int→Option T3)) (m:=m15) (k:=0) (v:=(1,0,0)) (by first | exact .inl rfl | exact .inr rfl) rfl rfl rfl rfl υ'142 (cW υ'3) Tk ?_)
  refine cZ rfl rfl (us:=[_,_,_,_,_]) rfl α'25 ζ'25 Tk 0 Az rfl rfl ?_
  refine qV (qK rfl rfl rfl rfl (cX rfl rfl rfl rfl (vs:=[_,_,_,_,_,_,_,_,_]) (kM υ'146 ω'146 (ps:=[(0,5),(5,1),(6,1),(7,1),(8,1)]) ⟨rfl,ζ'25,rfl,ζ'142,rfl,ζ'143,rfl,ζ'144,rfl,ζ'3,trivial⟩ rfl) ?_))
  refine sX rfl rfl rfl rfl (us:=[_,_,_,_,_,_,_,_,_]) rfl ?_
  intro b24
  refine qV (qR rfl rfl rfl rfl (qR rfl rfl rfl rfl (qS (qW [2,3] (e':=[(2,_),(3,_)]) rfl ?_))))
  refine qQ (qJ ?_)
  have hbl:(newF th va vo lk pl).B.length=n:=by rw [← hn];simp [newF]
  rw [show (List.replicate n ((0:Int),(0:Int)):List T2)=(newF th va vo lk pl).B from by rw [← hn];rfl]
  refine ck_fold (b:=b24) (newF th va vo lk pl) (pa:=qa) (pc:=qc) (m1:=m15) (m2:=m18) (oa:=some ⟨b22,0,none⟩) (oc:=n) Ts (by rw [← hn];rfl) (by exact hbl.symm) (rel_new hok) ?_
  refine ret2 rfl rfl rfl ((b24,qa,qc)) (by first | rfl | (first | rfl | (congr 1;done) | (congr 1 <;> first | rfl | omega | (simp;done) | (simp;omega)))) (by trivial) ?_
  exact Tf
 refine l_make (sz:=2) (enc:=enc2) (len:=n) (cap:=n) ((0,0)) rfl rfl rfl rfl rfl (by first | rfl | omega) (by first | rfl | omega) υ'144 τ'153 rfl rfl rfl (by decide) Om Om (by show 16*_≤_;omega) (by rfl) (enc2_len) ?_
 intro b22
 refine cZ rfl rfl (us:=[_,_,_,_,_]) rfl α'25 ζ'25 Tk 0 Az rfl rfl ?_
 refine qV ?_
 refine r_alt ?_ ?_
 ·
  refine rK Int T3 ekZ ev3 rfl rfl rfl ?_
  intro m15
  refine cZ rfl rfl (us:=[_,_,_,_,_]) rfl α'25 ζ'25 Tk 0 Az rfl rfl ?_
  refine qV ?_
  refine r_alt ?_ ?_
  ·
   refine sF (ek:=ekZ) (ev1:=ev3) (F:=(noF:Int→Option T3)) (m:=m15) (k:=0) (v:=(1,0,0)) (by first | exact .inl rfl | exact .inr rfl) rfl rfl rfl rfl υ'142 (cW υ'3) Tk ?_
   refine cZ rfl rfl (us:=[_,_,_,_,_]) rfl α'25 ζ'25 Tk 0 Az rfl rfl ?_
   refine qV (qK rfl rfl rfl rfl (rK Int Int ekZ ekZ rfl rfl rfl ?_))
   intro m18
   refine cZ rfl rfl (us:=[_,_,_,_,_]) rfl α'25 ζ'25 Tk 0 Az rfl rfl ?_
   refine qV (cX rfl rfl rfl rfl (vs:=[_,_,_,_,_,_,_,_,_]) (kM υ'146 ω'146 (ps:=[(0,5),(5,1),(6,1),(7,1),(8,1)]) ⟨rfl,ζ'25,rfl,ζ'142,rfl,ζ'143,rfl,ζ'144,rfl,ζ'3,trivial⟩ rfl) ?_)
   refine sX rfl rfl rfl rfl (us:=[_,_,_,_,_,_,_,_,_]) rfl ?_
   intro b24
   refine qV (qR rfl rfl rfl rfl (qR rfl rfl rfl rfl (qS (qW [2,3] (e':=[(2,_),(3,_)]) rfl ?_))))
   refine qQ (qJ ?_)
   have hbl:(newF th va vo lk pl).B.length=n:=by rw [← hn];simp [newF]
   rw [show (List.replicate n ((0:Int),(0:Int)):List T2)=(newF th va vo lk pl).B from by rw [← hn];rfl]
   refine ck_fold (b:=b24) (newF th va vo lk pl) (pa:=qa) (pc:=qc) (m1:=m15) (m2:=m18) (oa:=some ⟨b22,0,none⟩) (oc:=n) Ts (by rw [← hn];rfl) (by exact hbl.symm) (rel_new hok) ?_
   refine ret2 rfl rfl rfl ((b24,qa,qc)) (by first | rfl | (first | rfl | (congr 1;done) | (congr 1 <;> first | rfl | omega | (simp;done) | (simp;omega)))) (by trivial) ?_
   exact Tf
  refine rK Int Int ekZ ekZ rfl rfl rfl ?_
  intro m18
  refine cZ rfl rfl (us:=[_,_,_,_,_]) rfl α'25 ζ'25 Tk 0 Az rfl rfl ?_
  refine qV (sF (ek:=ekZ) (ev1:=ev3) (F:=(noF:Int→Option T3)) (m:=m15) (k:=0) (v:=(1,0,0)) (by first | exact .inl rfl | exact .inr rfl) rfl rfl rfl rfl υ'142 (cW υ'3) Tk ?_)
  refine cZ rfl rfl (us:=[_,_,_,_,_]) rfl α'25 ζ'25 Tk 0 Az rfl rfl ?_
  refine qV (qK rfl rfl rfl rfl (cX rfl rfl rfl rfl (vs:=[_,_,_,_,_,_,_,_,_]) (kM υ'146 ω'146 (ps:=[(0,5),(5,1),(6,1),(7,1),(8,1)]) ⟨rfl,ζ'25,rfl,ζ'142,rfl,ζ'143,rfl,ζ'144,rfl,ζ'3,trivial⟩ rfl) ?_))
  refine sX rfl rfl rfl rfl (us:=[_,_,_,_,_,_,_,_,_]) rfl ?_
  intro b24
  refine qV (qR rfl rfl rfl rfl (qR rfl rfl rfl rfl (qS (qW [2,3] (e':=[(2,_),(3,_)]) rfl ?_))))
  refine qQ (qJ ?_)
  have hbl:(newF th va vo lk pl).B.length=n:=by rw [← hn];simp [newF]
  rw [show (List.replicate n ((0:Int),(0:Int)):List T2)=(newF th va vo lk pl).B from by rw [← hn];rfl]
  refine ck_fold (b:=b24) (newF th va vo lk pl) (pa:=qa) (pc:=qc) (m1:=m15) (m2:=m18) (oa:=some ⟨b22,0,none⟩) (oc:=n) Ts (by rw [← hn];rfl) (by exact hbl.symm) (rel_new hok) ?_
  refine ret2 rfl rfl rfl ((b24,qa,qc)) (by first | rfl | (first | rfl | (congr 1;done) | (congr 1 <;> first | rfl | omega | (simp;done) | (simp;omega)))) (by trivial) ?_
  exact Tf
 refine rK Int Int ekZ ekZ rfl rfl rfl ?_
 intro m18
 refine cZ rfl rfl (us:=[_,_,_,_,_]) rfl α'25 ζ'25 Tk 0 Az rfl rfl ?_
 refine qV (rK Int T3 ekZ ev3 rfl rfl rfl ?_)
 intro m15
 refine cZ rfl rfl (us:=[_,_,_,_,_]) rfl α'25 ζ'25 Tk 0 Az rfl rfl ?_
 refine qV (sF (ek:=ekZ) (ev1:=ev3) (F:=(noF:Int→Option T3)) (m:=m15) (k:=0) (v:=(1,0,0)) (by first | exact .inl rfl | exact .inr rfl) rfl rfl rfl rfl υ'142 (cW υ'3) Tk ?_)
 refine cZ rfl rfl (us:=[_,_,_,_,_]) rfl α'25 ζ'25 Tk 0 Az rfl rfl ?_
 refine qV (qK rfl rfl rfl rfl (cX rfl rfl rfl rfl (vs:=[_,_,_,_,_,_,_,_,_]) (kM υ'146 ω'146 (ps:=[(0,5),(5,1),(6,1),(7,1),(8,1)]) ⟨rfl,ζ'25,rfl,ζ'142,rfl,ζ'143,rfl,ζ'144,rfl,ζ'3,trivial⟩ rfl) ?_))
 refine sX rfl rfl rfl rfl (us:=[_,_,_,_,_,_,_,_,_]) rfl ?_
 intro b24
 refine qV (qR rfl rfl rfl rfl (qR rfl rfl rfl rfl (qS (qW [2,3] (e':=[(2,_),(3,_)]) rfl ?_))))
 refine qQ (qJ ?_)
 have hbl:(newF th va vo lk pl).B.length=n:=by rw [← hn];simp [newF]
 rw [show (List.replicate n ((0:Int),(0:Int)):List T2)=(newF th va vo lk pl).B from by rw [← hn];rfl]
 refine ck_fold (b:=b24) (newF th va vo lk pl) (pa:=qa) (pc:=qc) (m1:=m15) (m2:=m18) (oa:=some ⟨b22,0,none⟩) (oc:=n) Ts (by rw [← hn];rfl) (by exact hbl.symm) (rel_new hok) ?_
 refine ret2 rfl rfl rfl ((b24,qa,qc)) (by first | rfl | (first | rfl | (congr 1;done) | (congr 1 <;> first | rfl | omega | (simp;done) | (simp;omega)))) (by trivial) ?_
 exact Tf
theorem newbad_spec (th va vo lk:Int) (pl:List Int) (ao:Option Addr) (n c:Nat) (A:HProp) (hr:RdS A ao (pl.flatMap encZ)) (hn:pl.length=n) (hb:n≤4000000) (hok:¬ OkS th va vo lk pl):Spec Try.prog 27 [.agg #[.int .i64 th,.int .i64 va,.int .i64 vo,.int .i64 lk,.slice ao n c]] [A] (fun (_:Unit)=>.tuple #[.pointer none,.int .i64 5]) (fun _=>True) (fun _=>[A]):=by
 refine kP (n:=25) Try.func27 rfl rfl rfl ?_
 intro Γ w0
 simp only [argE,List.cons_append,List.nil_append,Nat.zero_add,Nat.reduceAdd]
 refine qG (qC ((.l 0 [] (.q 1 (.q 2 (.done))))) Kr ?_)
 refine sX rfl rfl rfl rfl (us:=[_,_,_,_,_]) rfl ?_
 intro b1
 refine qV (qR rfl rfl rfl rfl (qR rfl rfl rfl rfl (qS (qQ (qG (qG (qC (.q 0 ((.l 1 [] (.q 2 (.done))))) Kr ?_)))))))
 refine kN rfl rfl rfl rfl α'25 ζ'25 Tk 0 (us:=[_,_,_,_,_]) Az rfl rfl ?_
 have sp_1:=shape_spec th va vo lk pl ao n c A (hr) Ln Om
 refine qM rfl rfl rfl rfl rfl rfl Try.call71 (sp_1) Ts ?_
 rintro ⟨⟩ -
 try simp only [List.cons_append,List.nil_append]
 refine qV (kH 6 rfl (v':=.int .i64 5) (by rw [if_neg hok]) ?_)
 refine qR rfl rfl rfl rfl (qS (qW [1,4] (e':=[(1,_),(4,_)]) rfl ?_))
 refine qQ (qG (qC (.q 0 (.q 1 (.done))) Kr ?_))
 refine qK rfl rfl rfl rfl (qN rfl rfl rfl rfl rfl (b_neq _ _ _ _) ?_)
 refine kH 8 rfl (v':=.bool true) (by first | rfl | simp) ?_
 refine qS (qQ (cN rfl ?_))
 refine qG (qC (.q 0 (.q 1 (.q 2 (.done)))) Kr ?_)
 refine qK rfl rfl rfl rfl (qR rfl rfl rfl rfl (qR rfl rfl rfl rfl (qS (qW [2,3] (e':=[(2,_),(3,_)]) rfl ?_))))
 refine qQ (qJ (qD (ret2 rfl rfl rfl (()) (by first | rfl | (first | rfl | (congr 1;done) | (congr 1 <;> first | rfl | omega | (simp;done) | (simp;omega)))) (by trivial) ?_)))
 exact Tf
end Go.Ab.Fe
set_option linter.unusedVariables false
set_option linter.unusedSimpArgs false
set_option maxRecDepth 100000
namespace Go.Ab.Vc
open Go Go.Proofs Go.Ab
def encU (z:Int):List Value:=[.int .u64 z]
theorem encU_len:∀ x,(encU x).length=1:=fun _=>rfl
theorem encU_one:∀ x,(encU x).all Value.oneCell'=true:=fun _=>rfl
abbrev maxC:Int:=281474976710655
/-- How long a list is without the zeros at its end. -/
def trN (l:List Int):Nat→Nat
  | 0=>0
  | n+1=>if l.getD n 0=0 then trN l n else n+1
def tr (l:List Int):List Int:=l.take (trN l l.length)
theorem trN_le (l:List Int):∀ n,trN l n≤n
  | 0=>Nat.le_refl _
  | n+1=>by
    unfold trN
    split
    · have:=trN_le l n;omega
    · omega
theorem tr_len (l:List Int):(tr l).length=trN l l.length:=by
  rw [tr,List.length_take,Nat.min_eq_left (trN_le _ _)]
theorem tr_le (l:List Int):(tr l).length≤l.length:=by rw [tr_len];exact trN_le _ _
theorem trN_z (l:List Int):∀ n j,trN l n≤j→j < n→l.getD j 0=0
  | 0,j,_,h=>by omega
  | n+1,j,h1,h2=>by
    unfold trN at h1
    split at h1
    · rename_i h
      by_cases hj:j=n
      · subst hj;exact h
      · exact trN_z l n j h1 Om
    · omega
theorem tr_g (l:List Int) (i:Nat):(tr l).getD i 0=l.getD i 0:=by
  by_cases h:i < trN l l.length
  · simp only [List.getD_eq_getElem?_getD,tr];rw [List.getElem?_take_of_lt h]
  · have h1:(tr l).getD i 0=0:=by simp only [List.getD_eq_getElem?_getD];rw [List.getElem?_eq_none (by rw [tr_len];omega)];rfl
    rw [h1]
    by_cases h2:i < l.length
    · exact (trN_z l l.length i Om h2).symm
    · simp only [List.getD_eq_getElem?_getD];rw [List.getElem?_eq_none Om];rfl
/-- No zero at the end. -/
def Tr (l:List Int):Prop:=l=[]∨l.getD (l.length - 1) 0≠0
theorem trN_tr (l:List Int):∀ n,trN l n=0∨l.getD (trN l n - 1) 0≠0
  | 0=>.inl rfl
  | n+1=>by
    unfold trN
    split
    · exact trN_tr l n
    · rename_i h;exact .inr h
theorem tr_Tr (l:List Int):Tr (tr l):=by
  rcases trN_tr l l.length with h | h
  · exact .inl (by rw [tr,h];rfl)
  · right;rw [tr_g,tr_len];exact h
theorem getD_mem {l:List Int} {i:Nat} {x:Int} (h:l[i]?=some x):l.getD i 0=x:=by simp [h]
/-- Vectors without zeros at the end are their clocks. -/
theorem Tr_ext {a b:List Int} (ha:Tr a) (hb:Tr b) (h:∀ i,a.getD i 0=b.getD i 0):a=b:=by
  have key:∀ {a b:List Int},Tr b→(∀ i,a.getD i 0=b.getD i 0)→b.length≤a.length:=by
    intro a b hb h
    rcases hb with hb | hb
    · subst hb;exact Nat.zero_le _
    · rcases Nat.lt_or_ge a.length b.length with h1 | h1
      · rw [← h] at hb
        simp only [List.getD_eq_getElem?_getD] at hb
        rw [List.getElem?_eq_none Om] at hb
        exact absurd rfl hb
      · exact h1
  have h1:=key hb h
  have h2:=key ha fun i=>(h i).symm
  apply List.ext_getElem?
  intro i
  by_cases hi:i < a.length
  · obtain ⟨x,hx⟩:=cP hi
    obtain ⟨y,hy⟩:=cP (l:=b) (i:=i) Om
    have:=h i
    rw [getD_mem hx,getD_mem hy] at this
    rw [hx,hy,this]
  · rw [List.getElem?_eq_none Om,List.getElem?_eq_none Om]
/-- A vector, as it may be. -/
structure CV (l:List Int):Prop where
  tr:Tr l
  len:l.length≤65535
  rng:∀ x∈l,0≤x∧x≤maxC
theorem tr_cv {l:List Int} (h:l.length≤65535) (hr:∀ x∈l,0≤x∧x≤maxC):CV (tr l):=⟨tr_Tr l,Nat.le_trans (tr_le l) h,fun x hx=>hr x (List.mem_of_mem_take hx)⟩
/-- As long as m at the least. -/
def pd (l:List Int) (m:Nat):List Int:=l++List.replicate (m - l.length) 0
theorem pd_len (l:List Int) (m:Nat):(pd l m).length=max l.length m:=by simp [pd];omega
theorem pd_g (l:List Int) (m i:Nat):(pd l m).getD i 0=l.getD i 0:=by
  simp only [List.getD_eq_getElem?_getD,pd]
  by_cases h:i < l.length
  · rw [List.getElem?_append_left h]
  · rw [List.getElem?_append_right Om,List.getElem?_replicate,List.getElem?_eq_none (l:=l) Om]
    split <;> rfl
/-- The join of two. -/
def jn (l m:List Int):List Int:=(List.range (max l.length m.length)).map fun i=>max (l.getD i 0) (m.getD i 0)
theorem jn_len (l m:List Int):(jn l m).length=max l.length m.length:=by simp [jn]
theorem mem_g {l:List Int} {i:Nat} (h:i < l.length):l.getD i 0∈l:=by
  obtain ⟨x,hx⟩:=cP h
  rw [getD_mem hx];exact List.mem_of_getElem? hx
theorem g_rng {l:List Int} {B:Int} (hr:∀ x∈l,0≤x∧x≤B) (hB:0≤B) (i:Nat):0≤l.getD i 0∧l.getD i 0≤B:=by
  by_cases h:i < l.length
  · exact hr _ (mem_g h)
  · have:l.getD i 0=0:=by simp only [List.getD_eq_getElem?_getD];rw [List.getElem?_eq_none Om];rfl
    omega
theorem jn_g {l m:List Int} (hl:CV l) (hm:CV m) (i:Nat):(jn l m).getD i 0=max (l.getD i 0) (m.getD i 0):=by
  by_cases h:i < max l.length m.length
  · simp only [List.getD_eq_getElem?_getD,jn,List.getElem?_map,List.getElem?_range h,Option.map_some,Option.getD_some]
  · have h1:∀ q:List Int,q.length≤i→q.getD i 0=0:=fun q hq=>by simp only [List.getD_eq_getElem?_getD];rw [List.getElem?_eq_none hq];rfl
    rw [h1 _ (by rw [jn_len];omega),h1 l Om,h1 m Om];rfl
theorem jn_cv {l m:List Int} (hl:CV l) (hm:CV m):CV (jn l m):=by
  have h1:=hl.len
  have h2:=hm.len
  refine ⟨?_,by rw [jn_len];omega,fun x hx=>?_⟩
  · by_cases h:max l.length m.length=0
    · exact .inl (List.eq_nil_of_length_eq_zero (by rw [jn_len];exact h))
    · right
      rw [jn_g hl hm,jn_len]
      have a:=g_rng hl.rng (by decide) (max l.length m.length - 1)
      have b:=g_rng hm.rng (by decide) (max l.length m.length - 1)
      rcases Nat.le_total m.length l.length with h3 | h3
      · rcases hl.tr with e | e
        · exfalso;apply h;rw [e] at h3 ⊢;simp at h3;rw [h3];rfl
        · rw [show max l.length m.length - 1=l.length - 1 from by omega] at a b ⊢;omega
      · rcases hm.tr with e | e
        · exfalso;apply h;rw [e] at h3 ⊢;simp at h3;rw [h3];rfl
        · rw [show max l.length m.length - 1=m.length - 1 from by omega] at a b ⊢;omega
  · obtain ⟨i,-,rfl⟩:=List.mem_map.1 hx
    have a:=g_rng hl.rng (by decide) i
    have b:=g_rng hm.rng (by decide) i
    omega
/-- What is joined so far, up to thread i. -/
def jnI (l m:List Int) (i:Nat):List Int:=(List.range (max l.length m.length)).map fun k=>if k < i then max (l.getD k 0) (m.getD k 0) else l.getD k 0
theorem jnI_len (l m:List Int) (i:Nat):(jnI l m i).length=max l.length m.length:=by simp [jnI]
theorem jnI_get {l m:List Int} {i k:Nat} (h:k < max l.length m.length):(jnI l m i)[k]?=some (if k < i then max (l.getD k 0) (m.getD k 0) else l.getD k 0):=by
  simp only [jnI,List.getElem?_map,List.getElem?_range h,Option.map_some]
theorem jnI_zero (l m:List Int):jnI l m 0=pd l m.length:=by
  apply List.ext_getElem?
  intro k
  by_cases h:k < max l.length m.length
  · rw [jnI_get h,if_neg Om]
    obtain ⟨x,hx⟩:=cP (l:=pd l m.length) (i:=k) (by rw [pd_len];exact h)
    rw [hx,← pd_g l m.length k,getD_mem hx]
  · rw [List.getElem?_eq_none (by rw [jnI_len];omega),List.getElem?_eq_none (by rw [pd_len];omega)]
theorem jnI_next {l m:List Int} {i:Nat} {y:Int} (hy:m[i]?=some y):(jnI l m i).set i (max (l.getD i 0) y)=jnI l m (i+1):=by
  have hi:=(List.getElem?_eq_some_iff.1 hy).1
  apply List.ext_getElem?
  intro k
  by_cases h:k < max l.length m.length
  · by_cases hk:k=i
    · subst hk
      rw [List.getElem?_set_self (by rw [jnI_len];omega),jnI_get h,if_pos Om,getD_mem hy]
    · rw [List.getElem?_set_ne (Ne.symm hk),jnI_get h,jnI_get h]
      by_cases h2:k < i
      · rw [if_pos h2,if_pos Om]
      · rw [if_neg h2,if_neg Om]
  · rw [List.getElem?_eq_none (by rw [List.length_set,jnI_len];omega),List.getElem?_eq_none (by rw [jnI_len];omega)]
theorem jnI_end {l m:List Int} (hl:CV l) {i:Nat} (h:m.length≤i):jnI l m i=jn l m:=by
  apply List.ext_getElem?
  intro k
  by_cases hk:k < max l.length m.length
  · rw [jnI_get hk,jn,List.getElem?_map,List.getElem?_range hk,Option.map_some]
    by_cases h2:k < i
    · rw [if_pos h2]
    · rw [if_neg h2]
      have h3:m.getD k 0=0:=by simp only [List.getD_eq_getElem?_getD];rw [List.getElem?_eq_none Om];rfl
      have:=g_rng hl.rng (by decide) k
      rw [h3,Int.max_eq_left this.1]
  · rw [List.getElem?_eq_none (by rw [jnI_len];omega),List.getElem?_eq_none (by rw [jn_len];omega)]
/-- A vector somewhere: where, its list's place and room, its clocks. -/
abbrev K:=Nat × Option Addr × Nat × List Int
abbrev kf (x:K):HProp:=Bun [cells x.1 0 [.slice x.2.1 x.2.2.2.length x.2.2.1],own 1 encU x.2.1 x.2.2.1 x.2.2.2]
def encP (x:K):List Value:=[.pointer (some ⟨x.1,0,none⟩)]
theorem encP_len:∀ x,(encP x).length=1:=fun _=>rfl
def jnA (l:List Int) (os:List K):List Int:=os.foldl (fun l x=>jn l x.2.2.2) l
theorem jnA_next {l:List Int} {os:List K} {i:Nat} {x:K} (h:os[i]?=some x):jnA l (os.take (i+1))=jn (jnA l (os.take i)) x.2.2.2:=by
  rw [List.take_add_one,h,jnA,jnA,List.foldl_append];rfl
/-- Is each clock at most the other's? -/
def LeqL (l m:List Int):Prop:=l.length≤m.length∧∀ i,i < l.length→l.getD i 0≤m.getD i 0
instance (l m:List Int):Decidable (LeqL l m):=inferInstanceAs (Decidable (_∧∀ i,i < l.length→_))
theorem rds_nil {α:Type} {A:HProp} {ao:Option Addr} {sz:Nat} {enc:α→List Value} {xs:List α} (h:RdS A ao (xs.flatMap enc)) (hsz:∀ x,(enc x).length=sz+1) (hn:ao=none):xs=[]:=by
  rcases h with h | ⟨b,o,h,-⟩
  · have:=flat_len hsz xs
    rw [h,List.length_nil] at this
    have h2:xs.length=0:=by
      rcases Nat.mul_eq_zero.1 this.symm with h3 | h3
      · exact h3
      · omega
    exact List.eq_nil_of_length_eq_zero h2
  · rw [hn] at h;cases h
theorem clone_spec (xs:List Int) (ao:Option Addr) (n c:Nat) (A:HProp) (hn:xs.length=n) (hr:RdS A ao (xs.flatMap encU)) (hb:xs.length≤4000000000000):Spec Try.prog 93 [.slice ao n c] [A] (fun (r:Option Addr × Nat)=>.slice r.1 n r.2) (fun r=>True) (fun r=>[A,own 1 encU r.1 r.2 xs]):=by
 refine kP (n:=8) Try.func93 rfl rfl rfl ?_
 intro Γ w0
 simp only [argE,List.cons_append,List.nil_append,Nat.zero_add,Nat.reduceAdd]
 refine qG (qC (.q 0 (.done)) Kr ?_)
 refine qR rfl rfl rfl rfl (qS (qQ (qG (qG (qC (.q 0 (.q 1 (.done))) Kr ?_)))))
 refine qK rfl rfl rfl rfl (q_eq_nils rfl rfl rfl rfl υ'50 ?_)
 refine qS (qQ ?_)
 refine c_cond rfl (fun hno=>?_) (fun hno=>?_)
 ·
  try simp only [Bool.and_eq_true,Bool.or_eq_true,Bool.not_eq_true',Bool.not_eq_false',Bool.and_eq_false_iff,Bool.or_eq_false_iff,decide_eq_true_eq,decide_eq_false_iff_not] at hno
  have hx:=rds_nil hr encU_len (by simpa using hno)
  subst hx
  obtain rfl:n=0:=by simpa using hn.symm
  refine kF (fun _ h=>cJ (sz:=1) (enc:=encU) h) ?_
  refine qG (qC (.q 0 (.done)) Kr ?_)
  refine qR rfl rfl rfl rfl (qS (qQ (qJ (qD (cR rfl rfl ((none,0)) (by first | rfl | (first | rfl | (congr 1;done) | (congr 1 <;> first | rfl | omega | (simp;done) | (simp;omega)))) (by trivial) ?_)))))
  exact Tf
 try simp only [Bool.and_eq_true,Bool.or_eq_true,Bool.not_eq_true',Bool.not_eq_false',Bool.and_eq_false_iff,Bool.or_eq_false_iff,decide_eq_true_eq,decide_eq_false_iff_not] at hno
 refine qF (qQ (qG (qC ((.l 0 [] (.q 1 ((.l 2 [] (.q 3 (.done))))))) Kr ?_)))
 refine l_buildSlice0 rfl rfl rfl rfl υ'50 ζ'48 ?_
 intro b5
 refine qV (qK rfl rfl rfl rfl (cK (A:=cells b5 0 []) Tk ?_))
 refine kF (fun _ h=>own_mk (sz:=1) (enc:=encU) (xs:=[]) (sp:=[]) (cap:=0) (Nat.le_refl _) rfl h) ?_
 refine sV (sz:=1) (enc:=encU) (xs:=[]) rfl rfl rfl rfl rfl υ'50 τ'48 rfl rfl rfl (by decide) Tk Tk (by first | rfl | omega | (simp;done) | (simp;omega)) (ys:=xs) (hr) (by rfl) (by exact hn) (encU_len) (encU_one) Om (by show _*8≤_;omega) ?_
 intro ao7 cp7
 try simp only [List.nil_append]
 refine qV (qR rfl rfl rfl rfl (qS (qW [2] (e':=[(2,_)]) rfl ?_)))
 refine qQ (qJ (cR rfl rfl ((ao7,cp7)) (by rw [Nat.zero_add]) (by trivial) ?_))
 exact Tf
theorem trim_spec (b:Nat) (l:List Int) (ao:Option Addr) (n cap:Nat) (hn:l.length=n) (hb:n≤4000000000):Spec Try.prog 74 [.pointer (some ⟨b,0,none⟩)] [cells b 0 [.slice ao n cap],own 1 encU ao cap l] (fun (_:Unit)=>.tuple #[]) (fun _=>True) (fun _=>[cells b 0 [.slice ao (tr l).length cap],own 1 encU ao cap (tr l)]):=by
 refine kP (n:=32) Try.func74 rfl rfl rfl ?_
 intro Γ w0
 simp only [argE,List.cons_append,List.nil_append,Nat.zero_add,Nat.reduceAdd]
 refine qG (qC (.q 0 (.q 1 (.q 2 (.q 3 (.q 4 (.q 5 (.done))))))) Kr ?_)
 refine qK rfl rfl rfl rfl (qX rfl rfl rfl rfl (qL (k:=0) rfl rfl rfl rfl υ'134 rfl ζ'50 rfl ?_))
 refine qP (j:=0) rfl rfl rfl rfl α'50 Tk Az (by rfl) ?_
 refine cH rfl rfl rfl rfl υ'50 ?_
 refine qR rfl rfl rfl rfl (qS (qW [0,2] (e':=[(0,_),(2,_)]) rfl ?_))
 refine qQ (qG (kS ?_))
 refine cD (α:=Nat) (fun (k:Nat)=>trN l l.length=trN l k∧k≤n) (fun (k:Nat)=>[(2,.int .i64 ((k:Nat):Int))]) (fun (k:Nat)=>[]) (fun (k:Nat)=>k) [0] (er:=[(0,_)]) rfl (n) ?_ (by exact ⟨rfl,trivial⟩) (by (try dsimp only);(try simp only [Nat.add_zero,Nat.zero_add]);(repeat ((with_reducible apply Z2);focus (first | (with_reducible (repeat (first | exact Z0 | apply Z1));done) | (repeat (first | exact Z0 | apply Z1)))));exact Z3) ?_
 · exact ⟨by rw [hn],Nat.le_refl _⟩
 rintro k ⟨hk,hkn⟩
 try simp only [List.cons_append,List.nil_append]
 refine qG (qG (qC (.q 0 (.q 1 (.q 2 (.q 3 (.q 4 (.q 5 (.q 6 (.q 7 (.q 8 (.q 9 (.q 10 (.q 11 (.q 12 (.done)))))))))))))) Kr ?_))
 refine qK rfl rfl rfl rfl (qN rfl rfl rfl rfl rfl (b_gtr _ _ _ _) ?_)
 refine qK rfl rfl rfl rfl ?_
 refine cL 10 rfl (fun hk0=>?_) (fun hk0=>?_)
 ·
  obtain ⟨k,rfl⟩:∃ j,k=j+1:=⟨k - 1,by omega⟩
  obtain ⟨x,hx⟩:=cP (l:=l) (i:=k) Om
  refine qK rfl rfl rfl rfl (qX rfl rfl rfl rfl (qL (k:=0) rfl rfl rfl rfl υ'134 rfl ζ'50 rfl ?_))
  refine qP (j:=0) rfl rfl rfl rfl α'50 Tk Az (by rfl) ?_
  refine qK rfl rfl rfl rfl (qN rfl rfl rfl rfl rfl (b_sub' _ (by exact kG Om Om)) ?_)
  refine kH 16 rfl (v':=.int .i64 ((k:Nat):Int)) (by congr 1;omega) ?_
  refine kY (sz:=0) (k:=k) (enc:=encU) (xs:=l) rfl rfl rfl rfl rfl υ'50 ζ'48 hx (by first | rfl | omega) Om Tk ?_
  intro ib17 io17 ha17 hl17 hc17
  refine kQ (v:=(.int .u64 x)) (j:=0) (k':=k) (enc:=encU) (off:=io17) rfl rfl rfl rfl α'48 ha17 encU_len hx Tk (by first | rfl | exact (Nat.add_zero _).symm | omega) (by rfl) ?_
  refine qN rfl rfl rfl rfl rfl (cS _ _ _ _) ?_
  refine kZ rfl rfl rfl rfl rfl (qS (qQ ?_))
  refine qB rfl (fun hz=>?_) (fun hz=>?_)
  ·
   have hz2:trN l (k+1)=trN l k:=by rw [trN,if_pos (by rw [getD_mem hx];exact hz)]
   refine qF (qQ (kS (qC (.q 0 (.q 1 (.q 2 (.done)))) Kr ?_)))
   refine qK rfl rfl rfl rfl (qN rfl rfl rfl rfl rfl (b_sub' _ (by exact kG Om Om)) ?_)
   refine kH 22 rfl (v':=.int .i64 ((k:Nat):Int)) (by congr 1;omega) ?_
   refine qR rfl rfl rfl rfl (qS (qW [0,2,11,12,13,14,15,16,17,18,19] (e':=[(0,_),(2,_),(11,_),(12,_),(13,_),(14,_),(15,_),(16,_),(17,_),(18,_),(19,_)]) rfl ?_))
   refine kK (qQ ?_)
   refine cQ (x:=k+1) (k) ?_ ?_ ?_ ?_
   · exact ⟨by rw [hk,hz2],by omega⟩
   · show k < k+1;omega
   · exact ⟨rfl,rfl,trivial⟩
   · (try simp only [List.cons_append,List.nil_append]);exact Tf
  have hz2:trN l (k+1)=k+1:=by rw [trN,if_neg (by rw [getD_mem hx];exact hz)]
  refine cM (qZ (qZ (kV (qQ (qC (.q 0 (.q 1 (.q 2 (.q 3 (.q 4 (.q 5 (.q 6 (.q 7 (.q 8 ((.l 9 [] (.done)))))))))))) Kr ?_)))))
  refine qK rfl rfl rfl rfl (qK rfl rfl rfl rfl (qX rfl rfl rfl rfl (qL (k:=0) rfl rfl rfl rfl υ'134 rfl ζ'50 rfl ?_)))
  refine qP (j:=0) rfl rfl rfl rfl α'50 Tk Az (by rfl) ?_
  refine qK rfl rfl rfl rfl (cK (A:=own 1 encU ao cap l) Tk ?_)
  refine rQ fun f_1a f_1b f_1c=>?_
  refine q_cut_hi (h':=k+1) rfl rfl rfl rfl rfl υ'50 ζ'48 (by first | rfl | omega) (by first | omega | (have hcap_:=f_1a;simp only [List.length_append,List.length_map,List.length_replicate,List.length_cons,List.length_nil] at hcap_;omega)) ?_
  refine cK (A:=own 1 encU ao cap l) Tk ?_
  refine kF (fun _ h=>own_take encU_len (k+1) h) ?_
  refine qX rfl rfl rfl rfl (qL (k:=0) rfl rfl rfl rfl υ'134 rfl ζ'50 rfl ?_)
  refine kR (j:=0) rfl rfl rfl rfl ζ'50 (us:=[_]) rfl rfl rfl Tk Az (by first | decide | (simp;done) | omega) ?_
  simp only [setL,List.set]
  refine qV (qS (qW [] (e':=[]) rfl ?_))
  refine sR ?_
  have hkk:trN l l.length=k+1:=hk.trans hz2
  have hkl:(tr l).length=k+1:=by rw [tr_len,hkk]
  refine cK (A:=own 1 encU ao cap (l.take (k+1))) Td ?_
  refine kF (Γ':=own 1 encU ao cap (tr l)::_) (fun _ h=>(by rw [tr,hkk];exact h)) ?_
  refine cK (A:=cells b 0 [.slice ao (k+1) cap]) Td ?_
  refine kF (Γ':=cells b 0 [.slice ao (tr l).length cap]::_) (fun _ h=>(by rw [hkl];exact h)) ?_
  refine rR rfl (()) (by first | rfl | (first | rfl | (congr 1;done) | (congr 1 <;> first | rfl | omega | (simp;done) | (simp;omega)))) (by trivial) ?_
  exact Tf
 obtain rfl:k=0:=by omega
 refine qY rfl rfl rfl rfl (qY rfl rfl rfl rfl (qY rfl rfl rfl rfl (qY rfl rfl rfl rfl (qY rfl rfl rfl rfl (qY rfl rfl rfl rfl (qY rfl rfl rfl rfl (qY rfl rfl rfl rfl (qY rfl rfl rfl rfl ?_))))))))
 refine kC rfl rfl rfl rfl rfl (qS (qQ (kB rfl ?_)))
 refine cM (qZ (qZ (kV (qQ (qC (.q 0 (.q 1 (.q 2 (.q 3 (.q 4 (.q 5 (.q 6 (.q 7 (.q 8 ((.l 9 [] (.done)))))))))))) Kr ?_)))))
 refine qK rfl rfl rfl rfl (qK rfl rfl rfl rfl (qX rfl rfl rfl rfl (qL (k:=0) rfl rfl rfl rfl υ'134 rfl ζ'50 rfl ?_)))
 refine qP (j:=0) rfl rfl rfl rfl α'50 Tk Az (by rfl) ?_
 refine qK rfl rfl rfl rfl (cK (A:=own 1 encU ao cap l) Tk ?_)
 refine rQ fun f_2a f_2b f_2c=>?_
 refine q_cut_hi (h':=0) rfl rfl rfl rfl rfl υ'50 ζ'48 (by first | rfl | omega) (by first | omega | (have hcap_:=f_2a;simp only [List.length_append,List.length_map,List.length_replicate,List.length_cons,List.length_nil] at hcap_;omega)) ?_
 refine cK (A:=own 1 encU ao cap l) Tk ?_
 refine kF (fun _ h=>own_take encU_len 0 h) ?_
 refine qX rfl rfl rfl rfl (qL (k:=0) rfl rfl rfl rfl υ'134 rfl ζ'50 rfl ?_)
 refine kR (j:=0) rfl rfl rfl rfl ζ'50 (us:=[_]) rfl rfl rfl Tk Az (by first | decide | (simp;done) | omega) ?_
 simp only [setL,List.set]
 refine qV (qS (qW [] (e':=[]) rfl ?_))
 refine sR ?_
 have hkk:trN l l.length=0:=hk
 have hkl:(tr l).length=0:=by rw [tr_len,hkk]
 refine cK (A:=own 1 encU ao cap (l.take 0)) Td ?_
 refine kF (Γ':=own 1 encU ao cap (tr l)::_) (fun _ h=>(by rw [tr,hkk];exact h)) ?_
 refine cK (A:=cells b 0 [.slice ao 0 cap]) Td ?_
 refine kF (Γ':=cells b 0 [.slice ao (tr l).length cap]::_) (fun _ h=>(by rw [hkl];exact h)) ?_
 refine rR rfl (()) (by first | rfl | (first | rfl | (congr 1;done) | (congr 1 <;> first | rfl | omega | (simp;done) | (simp;omega)))) (by trivial) ?_
 exact Tf
theorem reach_spec (b:Nat) (l:List Int) (t:Nat) (ao:Option Addr) (n cap:Nat) (hn:l.length=n) (hb:n≤4000000000∧t≤4000000000):Spec Try.prog 73 [.pointer (some ⟨b,0,none⟩),.int .i64 (((t:Nat):Int) - 1)] [cells b 0 [.slice ao n cap],own 1 encU ao cap l] (fun (r:Option Addr × Nat)=>.tuple #[]) (fun r=>True) (fun r=>[cells b 0 [.slice r.1 (pd l t).length r.2],own 1 encU r.1 r.2 (pd l t)]):=by
 refine kP (n:=24) Try.func73 rfl rfl rfl ?_
 intro Γ w0
 simp only [argE,List.cons_append,List.nil_append,Nat.zero_add,Nat.reduceAdd]
 refine qG (qC (.q 0 (.q 1 (.q 2 (.q 3 (.q 4 (.q 5 (.q 6 (.q 7 (.q 8 (.done)))))))))) Kr ?_)
 refine qK rfl rfl rfl rfl (qN rfl rfl rfl rfl rfl (cV _ (by exact kG Om Om)) ?_)
 refine kH 6 rfl (v':=.int .i64 ((t:Nat):Int)) (by congr 1;omega) ?_
 refine qK rfl rfl rfl rfl (qX rfl rfl rfl rfl (qL (k:=0) rfl rfl rfl rfl υ'134 rfl ζ'50 rfl ?_))
 refine qP (j:=0) rfl rfl rfl rfl α'50 Tk Az (by rfl) ?_
 refine cH rfl rfl rfl rfl υ'50 ?_
 refine qN rfl rfl rfl rfl rfl (b_sub' _ (by exact kG Om Om)) ?_
 refine qR rfl rfl rfl rfl (qS (qW [0,4] (e':=[(0,_),(4,_)]) rfl ?_))
 refine qQ (qG (qC (.q 0 (.q 1 (.done))) Kr ?_))
 refine qK rfl rfl rfl rfl (qN rfl rfl rfl rfl rfl (b_gtr _ _ _ _) ?_)
 refine qS (qQ ?_)
 refine qB rfl (fun hgt=>?_) (fun hgt=>?_)
 ·
  refine qC (.q 0 (.q 1 (.q 2 (.q 3 (.q 4 (.q 5 ((.l 6 [] (.q 7 (.q 8 ((.l 9 [] (.done))))))))))))) Kr ?_
  refine qK rfl rfl rfl rfl (qK rfl rfl rfl rfl (qX rfl rfl rfl rfl (qL (k:=0) rfl rfl rfl rfl υ'134 rfl ζ'50 rfl ?_)))
  refine qP (j:=0) rfl rfl rfl rfl α'50 Tk Az (by rfl) ?_
  refine qK rfl rfl rfl rfl (l_appendZ (sz:=1) (enc:=encU) (m:=t - n) (xs:=l) (0:Int) rfl rfl rfl rfl rfl υ'50 υ'3 τ'48 rfl rfl rfl (by decide) Tk (by first | exact hn | rfl) Om rfl encU_len encU_one Om (by show _*8≤_;omega) ?_)
  intro ao21 cp21
  rw [show l++List.replicate (t - n) 0=pd l t from by rw [pd,hn]]
  have hpl:(pd l t).length=n+(t - n):=by rw [pd_len,hn];omega
  refine qV (qX rfl rfl rfl rfl (qL (k:=0) rfl rfl rfl rfl υ'134 rfl ζ'50 rfl ?_))
  refine kR (j:=0) rfl rfl rfl rfl ζ'50 (us:=[_]) rfl rfl rfl Tk Az (by first | decide | (simp;done) | omega) ?_
  simp only [setL,List.set]
  refine qV (qS (qW [] (e':=[]) rfl ?_))
  refine sR ?_
  refine cK (A:=cells b 0 [.slice ao21 (n+(t - n)) cp21]) Td ?_
  refine kF (Γ':=cells b 0 [.slice ao21 (pd l t).length cp21]::_) (fun _ h=>(by rw [hpl];exact h)) ?_
  refine rR rfl ((ao21,cp21)) (by first | rfl | (first | rfl | (congr 1;done) | (congr 1 <;> first | rfl | omega | (simp;done) | (simp;omega)))) (by trivial) ?_
  exact Tf
 have hpd:pd l t=l:=by rw [pd,show t - l.length=0 from by omega];simp
 rw [show own 1 encU ao cap l=own 1 encU ao cap (pd l t) from by rw [hpd]]
 have hpl:(pd l t).length=n:=by rw [hpd,hn]
 refine qF (sR ?_)
 refine cK (A:=cells b 0 [.slice ao n cap]) Td ?_
 refine kF (Γ':=cells b 0 [.slice ao (pd l t).length cap]::_) (fun _ h=>(by rw [hpl];exact h)) ?_
 refine rR rfl ((ao,cap)) (by first | rfl | (first | rfl | (congr 1;done) | (congr 1 <;> first | rfl | omega | (simp;done) | (simp;omega)))) (by trivial) ?_
 exact Tf
theorem index_spec (os:List K) (bo:Option Addr) (m c:Nat) (A:HProp) (hr:RdS A bo (os.flatMap encP)) (hm:os.length=m) (hb:m≤4000000000):Spec Try.prog 107 [.slice bo m c,.pointer none] [A] (fun (_:Unit)=>.int .i64 (-1)) (fun _=>True) (fun _=>[A]):=by
 refine kP (n:=19) Try.func107 rfl rfl rfl ?_
 intro Γ w0
 simp only [argE,List.cons_append,List.nil_append,Nat.zero_add,Nat.reduceAdd]
 refine qG (qC (.q 0 (.done)) Kr ?_)
 refine qR rfl rfl rfl rfl (qS (qQ (qG (qG (qC (.q 0 (.q 1 (.q 2 (.done)))) Kr ?_)))))
 refine qK rfl rfl rfl rfl (cH rfl rfl rfl rfl υ'182 ?_)
 refine qK rfl rfl rfl rfl (qS (qQ (kS ?_)))
 refine cD (α:=Nat) (fun (i:Nat)=>i≤m) (fun (i:Nat)=>[(8,.int .i64 ((i:Nat):Int))]) (fun (i:Nat)=>[]) (fun (i:Nat)=>m - i) [0,1,7] (er:=[(0,_),(1,_),(7,_)]) rfl (0) ?_ (by exact ⟨rfl,trivial⟩) (by (try dsimp only);(try simp only [Nat.add_zero,Nat.zero_add]);(repeat ((with_reducible apply Z2);focus (first | (with_reducible (repeat (first | exact Z0 | apply Z1));done) | (repeat (first | exact Z0 | apply Z1)))));exact Z3) ?_
 · exact Nat.zero_le _
 rintro i hle_i
 try simp only [List.cons_append,List.nil_append]
 refine qG (qC (.q 0 (.done)) Kr ?_)
 refine qN rfl rfl rfl rfl rfl (sK _ _ _ _) ?_
 refine qS (qQ (qG ?_))
 refine qB rfl (fun hlt=>?_) (fun hlt=>?_)
 ·
  refine qF (qQ (qG (kS (qG (qC (.q 0 (.q 1 (.done))) Kr ?_)))))
  refine qK rfl rfl rfl rfl (qR rfl rfl rfl rfl (qS (qQ (qG (qC (.q 0 (.q 1 (.q 2 (.q 3 (.q 4 (.q 5 (.done))))))) Kr ?_)))))
  refine qK rfl rfl rfl rfl (qK rfl rfl rfl rfl (qK rfl rfl rfl rfl ?_))
  obtain ⟨x,hx⟩:=cP (l:=os) (i:=i) (by first | omega | (simp;done) | (simp;omega))
  refine rC (sz:=0) (k:=i) rfl rfl rfl rfl rfl υ'182 ζ'86 (hr) hx encP_len (by first | rfl | omega) Om ?_
  intro ib14 io14 _ hd14
  refine q_load rfl rfl rfl rfl α'86 Tk (hd14 0 (.pointer (some ⟨x.1,0,none⟩)) rfl) ?_
  refine q_eqp rfl rfl rfl rfl rfl υ'86 (by first | exact .inl rfl | exact .inr rfl) ?_
  refine kH 16 rfl (v':=.bool false) (by simp) ?_
  refine qS (qW [0,1,5,7,8,16] (e':=[(0,_),(1,_),(5,_),(7,_),(8,_),(16,_)]) rfl ?_)
  refine qQ (kB rfl ?_)
  refine qF (kK (qQ (qC (.q 0 (.q 1 (.done))) Kr ?_)))
  refine qN rfl rfl rfl rfl rfl (cV _ (by exact kG Om Om)) ?_
  refine qK rfl rfl rfl rfl (qS (qQ ?_))
  refine cQ (x:=i) (i+1) ?_ ?_ ?_ ?_
  · exact by show i+1≤m;omega
  · show m - (i+1) < m - i;omega
  · exact ⟨rfl,rfl,rfl,rfl,trivial⟩
  · (try simp only [List.cons_append,List.nil_append]);exact Tf
 refine cM (qZ (qZ (kV (qQ (qG (qC (.q 0 (.done)) Kr ?_))))))
 refine qR rfl rfl rfl rfl (qS (qW [4] (e':=[(4,_)]) rfl ?_))
 refine qQ (qJ (cR rfl rfl (()) (by first | rfl | (first | rfl | (congr 1;done) | (congr 1 <;> first | rfl | omega | (simp;done) | (simp;omega)))) (by trivial) ?_))
 exact Tf
theorem contains_spec (os:List K) (bo:Option Addr) (m c:Nat) (A:HProp) (hr:RdS A bo (os.flatMap encP)) (hm:os.length=m) (hb:m≤4000000000):Spec Try.prog 103 [.slice bo m c,.pointer none] [A] (fun (_:Unit)=>.bool false) (fun _=>True) (fun _=>[A]):=by
 refine kP (n:=9) Try.func103 rfl rfl rfl ?_
 intro Γ w0
 simp only [argE,List.cons_append,List.nil_append,Nat.zero_add,Nat.reduceAdd]
 refine qG (qC (.q 0 (.done)) Kr ?_)
 refine qR rfl rfl rfl rfl (qS (qQ (qG (qC (.q 0 (.q 1 ((.l 2 [] (.q 3 (.q 4 (.done))))))) Kr ?_))))
 refine qK rfl rfl rfl rfl (qK rfl rfl rfl rfl ?_)
 have sp_1:=index_spec os bo m c A hr hm hb
 refine qM rfl rfl rfl rfl rfl rfl Try.call107 (sp_1) Ts ?_
 rintro ⟨⟩ -
 try simp only [List.cons_append,List.nil_append]
 refine qV (qN rfl rfl rfl rfl rfl (b_geq _ _ _ _) ?_)
 refine kH 8 rfl (v':=.bool false) (by first | rfl | simp) ?_
 refine qR rfl rfl rfl rfl (qS (qW [4] (e':=[(4,_)]) rfl ?_))
 refine qQ (qJ (cR rfl rfl (()) (by first | rfl | (first | rfl | (congr 1;done) | (congr 1 <;> first | rfl | omega | (simp;done) | (simp;omega)))) (by trivial) ?_))
 exact Tf
end Go.Ab.Vc
set_option linter.unusedVariables false
set_option linter.unusedSimpArgs false
set_option maxRecDepth 100000
namespace Go.Ab.Vc
open Go Go.Proofs Go.Ab
theorem join_spec (b:Nat) (l:List Int) (ao:Option Addr) (n cap:Nat) (hn:l.length=n) (hl:CV l) (os M:List K) (hos:∀ x∈os,x∈M) (hMc:∀ x∈M,CV x.2.2.2) (bo:Option Addr) (m c:Nat) (A:HProp) (hr:RdS A bo (os.flatMap encP)) (hm:os.length=m) (hb:m≤4000000000):Spec Try.prog 89 [.pointer (some ⟨b,0,none⟩),.slice bo m c] [cells b 0 [.slice ao n cap],own 1 encU ao cap l,A,bigS kf M] (fun (r:Option Addr × Nat)=>.int .i64 0) (fun r=>True) (fun r=>[cells b 0 [.slice r.1 (jnA l os).length r.2],own 1 encU r.1 r.2 (jnA l os),A,bigS kf M]):=by
 refine kP (n:=56) Try.func89 rfl rfl rfl ?_
 intro Γ w0
 simp only [argE,List.cons_append,List.nil_append,Nat.zero_add,Nat.reduceAdd]
 refine qG (qC (.q 0 (.done)) Kr ?_)
 refine qR rfl rfl rfl rfl (qS (qQ (qG (qG (qC (.q 0 (.q 1 (.q 2 (.q 3 ((.l 4 [] (.q 5 (.done)))))))) Kr ?_)))))
 refine qK rfl rfl rfl rfl (cY rfl rfl rfl rfl υ'86 ?_)
 refine kH 10 rfl (v':=.bool false) rfl ?_
 refine qK rfl rfl rfl rfl (qK rfl rfl rfl rfl ?_)
 have sp_1:=contains_spec os bo m c A hr hm hb
 refine qM rfl rfl rfl rfl rfl rfl Try.call103 (sp_1) Ts ?_
 rintro ⟨⟩ -
 try simp only [List.cons_append,List.nil_append]
 refine qV (kC rfl rfl rfl rfl rfl (qS (qW [0,1,14] (e':=[(0,_),(1,_),(14,_)]) rfl ?_)))
 refine qQ (kB rfl ?_)
 refine qF (qQ (qG (qG (qC (.q 0 (.q 1 (.q 2 (.done)))) Kr ?_))))
 refine qK rfl rfl rfl rfl (cH rfl rfl rfl rfl υ'182 ?_)
 refine qK rfl rfl rfl rfl (qS (qQ (kS ?_)))
 rw [← hn]
 refine cD (α:=Nat × Option Addr × Nat) (fun (x_:Nat × Option Addr × Nat)=>match x_ with | (k,ja,jc)=>k≤m∧(CV (jnA l (os.take k)))) (fun (x_:Nat × Option Addr × Nat)=>match x_ with | (k,ja,jc)=>[(17,.int .i64 ((k:Nat):Int))]) (fun (x_:Nat × Option Addr × Nat)=>match x_ with | (k,ja,jc)=>[cells b 0 [.slice ja ((jnA l (os.take k)).length) jc],own 1 encU ja jc (jnA l (os.take k))]) (fun (x_:Nat × Option Addr × Nat)=>match x_ with | (k,ja,jc)=>m - k) [0,15,16] (er:=[(0,_),(15,_),(16,_)]) rfl (0,ao,cap) ?_ (by exact ⟨rfl,trivial⟩) Ts ?_
 · exact ⟨Nat.zero_le _,hl⟩
 rintro ⟨k,ja,jc⟩ ⟨hle_k,hcv⟩
 try simp only [List.cons_append,List.nil_append]
 have hcl:=hcv.len
 refine qG (qC (.q 0 (.done)) Kr ?_)
 refine qN rfl rfl rfl rfl rfl (sK _ _ _ _) ?_
 refine qS (qQ (qG ?_))
 refine qB rfl (fun hlt=>?_) (fun hlt=>?_)
 ·
  obtain ⟨x,hx⟩:=cP (l:=os) (i:=k) Om
  have hxM:=hos _ (List.mem_of_getElem? hx)
  have hxcv:=hMc _ hxM
  obtain ⟨j,hj⟩:=List.getElem?_of_mem hxM
  obtain ⟨d,da,dc,dl⟩:=x
  simp only at hxcv
  have hdl:=hxcv.len
  refine s_big_take (f:=kf) (L:=M) Tk hj ?_
  refine s_bun ?_
  try simp only [List.cons_append,List.nil_append]
  obtain ⟨cur,hcur⟩:∃ c,c=jnA l (os.take k):=⟨_,rfl⟩
  rw [← hcur] at hcv hcl ⊢
  refine qF (qQ (qG (kS (qG (qC (.q 0 (.q 1 (.q 2 (.done)))) Kr ?_)))))
  refine rC (sz:=0) (k:=k) rfl rfl rfl rfl rfl υ'182 ζ'86 (hr) hx encP_len (by first | rfl | omega) Om ?_
  intro ib19 io19 _ hd19
  refine q_load rfl rfl rfl rfl α'86 Tk (hd19 0 (.pointer (some ⟨(d,da,dc,dl).1,0,none⟩)) rfl) ?_
  refine kH 20 rfl (v':=.pointer (some ⟨d,0,none⟩)) (by rfl) ?_
  refine qR rfl rfl rfl rfl (qS (qQ (qG (qC (.q 0 (.q 1 (.q 2 (.q 3 (.q 4 (.q 5 (.q 6 ((.l 7 [] (.done)))))))))) Kr ?_))))
  refine qK rfl rfl rfl rfl (qK rfl rfl rfl rfl (qX rfl rfl rfl rfl (qL (k:=0) rfl rfl rfl rfl υ'134 rfl ζ'50 rfl ?_)))
  refine qP (j:=0) rfl rfl rfl rfl α'50 Tk Az (by rfl) ?_
  refine cH rfl rfl rfl rfl υ'50 ?_
  refine qN rfl rfl rfl rfl rfl (b_sub' _ (by exact kG Om Om)) ?_
  have sp_2:=reach_spec b cur dl.length ja cur.length jc Ln Om
  refine qM rfl rfl rfl rfl rfl rfl Try.call73 (sp_2) Ts ?_
  rintro ⟨re_a,re_c⟩ -
  try simp only [List.cons_append,List.nil_append]
  refine qV (qS (qW [0,6,15,16,17] (e':=[(0,_),(6,_),(15,_),(16,_),(17,_)]) rfl ?_))
  refine qQ (qG (qC (.q 0 (.q 1 (.q 2 (.q 3 (.q 4 (.q 5 (.done))))))) Kr ?_))
  refine qK rfl rfl rfl rfl (qX rfl rfl rfl rfl (qL (k:=0) rfl rfl rfl rfl υ'134 rfl ζ'50 rfl ?_))
  refine qP (j:=0) rfl rfl rfl rfl α'50 Tk Az (by rfl) ?_
  refine cH rfl rfl rfl rfl υ'50 ?_
  refine qK rfl rfl rfl rfl (qS (qW [0,15,16,17,32,33,34] (e':=[(0,_),(15,_),(16,_),(17,_),(32,_),(33,_),(34,_)]) rfl ?_))
  refine qQ (kS ?_)
  refine cD (α:=Nat) (fun (i:Nat)=>i≤dl.length) (fun (i:Nat)=>[(34,.int .i64 ((i:Nat):Int))]) (fun (i:Nat)=>[cells b 0 [.slice re_a ((pd cur dl.length).length) re_c],own 1 encU re_a re_c (jnI cur dl i)]) (fun (i:Nat)=>dl.length - i) [0,15,16,17,32,33] (er:=[(0,_),(15,_),(16,_),(17,_),(32,_),(33,_)]) rfl (0) ?_ (by exact ⟨rfl,trivial⟩) (by (try dsimp only);rw [jnI_zero];(repeat ((with_reducible apply Z2);focus (first | (with_reducible (repeat (first | exact Z0 | apply Z1));done) | (repeat (first | exact Z0 | apply Z1)))));exact Z3) ?_
  · exact Nat.zero_le _
  rintro i hle_i
  try simp only [List.cons_append,List.nil_append]
  have hjl:(jnI cur dl i).length=max cur.length dl.length:=jnI_len _ _ _
  have hjp:=pd_len cur dl.length
  refine qG (qC (.q 0 (.done)) Kr ?_)
  refine qN rfl rfl rfl rfl rfl (sK _ _ _ _) ?_
  refine qS (qQ (qG ?_))
  refine qB rfl (fun hli=>?_) (fun hli=>?_)
  ·
   obtain ⟨y,hy⟩:=cP (l:=dl) (i:=i) Om
   have hji:(jnI cur dl i)[i]?=some (cur.getD i 0):=by rw [jnI_get Om,if_neg Om]
   refine qF (qQ (qG (kS (qG (qC (.q 0 (.q 1 (.q 2 (.q 3 (.q 4 (.done)))))) Kr ?_)))))
   refine qK rfl rfl rfl rfl (kY (sz:=0) (k:=i) (enc:=encU) (xs:=dl) rfl rfl rfl rfl rfl υ'50 ζ'48 hy (by first | rfl | omega) Om Tk ?_)
   intro ib37 io37 ha37 hl37 hc37
   refine kQ (v:=(.int .u64 y)) (j:=0) (k':=i) (enc:=encU) (off:=io37) rfl rfl rfl rfl α'48 ha37 encU_len hy Tk (by first | rfl | exact (Nat.add_zero _).symm | omega) (by rfl) ?_
   refine qR rfl rfl rfl rfl (qR rfl rfl rfl rfl (qS (qW [0,7,8,15,16,17,32,33,34] (e':=[(0,_),(7,_),(8,_),(15,_),(16,_),(17,_),(32,_),(33,_),(34,_)]) rfl ?_)))
   refine qQ (kX rfl (.q 0 (.q 1 (.q 2 (.q 3 (.q 4 (.q 5 (.q 6 (.q 7 (.q 8 (.q 9 (.q 10 (.q 11 (.q 12 (.q 13 (.q 14 ((.l 15 [] (.done)))))))))))))))))) Kr ?_)
   refine qK rfl rfl rfl rfl (qX rfl rfl rfl rfl (qL (k:=0) rfl rfl rfl rfl υ'134 rfl ζ'50 rfl ?_))
   refine qP (j:=0) rfl rfl rfl rfl α'50 Tk Az (by rfl) ?_
   refine qK rfl rfl rfl rfl (qK rfl rfl rfl rfl (qX rfl rfl rfl rfl (qL (k:=0) rfl rfl rfl rfl υ'134 rfl ζ'50 rfl ?_)))
   refine qP (j:=0) rfl rfl rfl rfl α'50 Tk Az (by rfl) ?_
   refine qK rfl rfl rfl rfl (kY (sz:=0) (k:=i) (enc:=encU) (xs:=(jnI cur dl i)) rfl rfl rfl rfl rfl υ'50 ζ'48 hji (by first | rfl | omega) Om Tk ?_)
   intro ib49 io49 ha49 hl49 hc49
   refine kQ (v:=(.int .u64 (cur.getD i 0))) (j:=0) (k':=i) (enc:=encU) (off:=io49) rfl rfl rfl rfl α'48 ha49 encU_len hji Tk (by first | rfl | exact (Nat.add_zero _).symm | omega) (by rfl) ?_
   refine qK rfl rfl rfl rfl (q_max rfl rfl rfl rfl rfl ?_)
   refine kY (sz:=0) (k:=i) (enc:=encU) (xs:=(jnI cur dl i)) rfl rfl rfl rfl rfl υ'50 ζ'48 hji (by first | rfl | omega) Om Tk ?_
   intro ib53 io53 ha53 hl53 hc53
   refine kJ (j:=0) (k:=i) (q:=(max (cur.getD i 0) y)) (enc:=encU) (off:=io53) rfl rfl rfl rfl ζ'48 (us:=[_]) rfl rfl rfl ha53 encU_len hji Tk (by first | rfl | exact (Nat.add_zero _).symm | omega) (by first | decide | exact Nat.le_of_ble_eq_true rfl) (by rfl) ?_
   refine qV (qS (qW [0,15,16,17,32,33,34] (e':=[(0,_),(15,_),(16,_),(17,_),(32,_),(33,_),(34,_)]) rfl ?_))
   refine kK (qQ (qC (.q 0 (.q 1 (.done))) Kr ?_))
   refine qN rfl rfl rfl rfl rfl (cV _ (by exact kG Om Om)) ?_
   refine qK rfl rfl rfl rfl (qS (qQ ?_))
   rw [jnI_next hy]
   refine cQ (x:=i) (i+1) ?_ ?_ ?_ ?_
   · exact by show i+1≤dl.length;omega
   · show dl.length - (i+1) < dl.length - i;omega
   · exact ⟨rfl,rfl,rfl,rfl,rfl,rfl,rfl,trivial⟩
   · (try simp only [List.cons_append,List.nil_append]);exact Tf
  refine cM (qZ (qZ (kV (kK (qQ (qC (.q 0 (.q 1 (.done))) Kr ?_))))))
  refine qN rfl rfl rfl rfl rfl (cV _ (by exact kG Om Om)) ?_
  refine qK rfl rfl rfl rfl (qS (qW [0,15,16,17] (e':=[(0,_),(15,_),(16,_),(17,_)]) rfl ?_))
  refine qQ ?_
  have hnx:jnA l (os.take (k+1))=jn cur dl:=by rw [jnA_next hx,← hcur]
  have hje:jnI cur dl i=jnA l (os.take (k+1)):=by rw [hnx];exact jnI_end hcv Om
  have hjl2:(pd cur dl.length).length=(jnA l (os.take (k+1))).length:=by rw [hnx,pd_len,jn_len]
  refine cK (A:=own 1 encU re_a re_c (jnI cur dl i)) Td ?_
  refine kF (Γ':=own 1 encU re_a re_c (jnA l (os.take (k+1)))::_) (fun _ h=>(by rw [← hje];exact h)) ?_
  refine cK (A:=cells b 0 [.slice re_a ((pd cur dl.length).length) re_c]) Td ?_
  refine kF (Γ':=cells b 0 [.slice re_a ((jnA l (os.take (k+1))).length) re_c]::_) (fun _ h=>(by rw [← hjl2];exact h)) ?_
  refine kF (fun _ h=>Bun.fold ((by (repeat ((with_reducible apply Z2);focus (first | (with_reducible (repeat (first | exact Z0 | apply Z1));done) | (repeat (first | exact Z0 | apply Z1)))));exact Z3:Takes _ [cells d 0 [.slice da dl.length dc],own 1 encU da dc dl] _) _ h)) ?_
  refine s_big_put (f:=kf) (L:=M) (i:=j) (y:=(d,da,dc,dl)) Ts (List.getElem?_eq_some_iff.1 hj).1 ?_
  rw [sM hj]
  refine cQ (x:=(k,ja,jc)) ((k+1,re_a,re_c)) ?_ ?_ ?_ ?_
  · try dsimp only
    exact ⟨by omega,by rw [hnx];exact jn_cv hcv hxcv⟩
  · show m - (k+1) < m - k;omega
  · exact ⟨rfl,rfl,rfl,rfl,trivial⟩
  · (try simp only [List.cons_append,List.nil_append]);exact Tf
 refine cM (qZ (qZ (kV (qQ (qG (qC (.q 0 (.done)) Kr ?_))))))
 refine qR rfl rfl rfl rfl (qS (qW [4] (e':=[(4,_)]) rfl ?_))
 refine qQ (qJ ?_)
 obtain rfl:k=m:=by omega
 rw [List.take_of_length_le Om]
 refine cR rfl rfl ((ja,jc)) (by first | rfl | (first | rfl | (congr 1;done) | (congr 1 <;> first | rfl | omega | (simp;done) | (simp;omega)))) (by trivial) ?_
 exact Tf
theorem over_spec (ao:Option Addr) (n c:Nat):Spec Try.prog 102 [.slice ao n c] [] (fun (r:Nat)=>.func (.func 106) #[] #[.pointer (some ⟨r,0,none⟩)]) (fun r=>True) (fun r=>[cells r 0 [.slice ao n c]]):=by
 refine kP (n:=4) Try.func102 rfl rfl rfl ?_
 intro Γ w0
 simp only [argE,List.cons_append,List.nil_append,Nat.zero_add,Nat.reduceAdd]
 refine qG (qC ((.l 0 [] (.q 1 (.done)))) Kr ?_)
 refine sX rfl rfl rfl rfl (us:=[_]) rfl ?_
 intro b1
 refine qV (qR rfl rfl rfl rfl (qS (qQ (qG (qC (.q 0 (.q 1 (.done))) Kr ?_)))))
 refine q_func rfl rfl rfl rfl rfl ?_
 refine qR rfl rfl rfl rfl (qS (qQ (qJ (cR rfl rfl (b1) (by first | rfl | (first | rfl | (congr 1;done) | (congr 1 <;> first | rfl | omega | (simp;done) | (simp;omega)))) (by trivial) ?_))))
 exact Tf
theorem over1_spec {σ:Type} (l:List Int) (ao:Option Addr) (n c bx:Nat) (A:HProp) (hn:l.length=n) (hr:RdS A ao (l.flatMap encU)) (hb:n≤4000000000) (yf:Value) (JL:Option Code→HProp) (J:σ→HProp) (I:Nat→σ→Prop) (Fin:σ→Code→Prop)
    (hy:∀ i x s,l[i]?=some x→x≠0→I i s→CallF Try.prog yf [.int .i64 ((i:Nat):Int),.int .u64 x] [JL none,J s,A] (fun (r:σ × Option Code)=>.bool r.2.isNone) (fun r=>(r.2=none→I (i+1) r.1)∧(∀ c,r.2=some c→Fin r.1 c)) (fun r=>[JL r.2,J r.1,A]))
    (hz:∀ i s,l[i]?=some 0→I i s→I (i+1) s) (s0:σ) (h0:I 0 s0):Spec Try.prog 106 [yf,.pointer (some ⟨bx,0,none⟩)] [JL none,J s0,A,cells bx 0 [.slice ao n c]] (fun (r:σ × Option Code)=>.tuple #[]) (fun r=>(r.2=none∧I n r.1)∨∃ c,r.2=some c∧Fin r.1 c) (fun r=>[JL r.2,J r.1,A,cells bx 0 [.slice ao n c]]):=by
 refine kP (n:=22) Try.func106 rfl rfl rfl ?_
 intro Γ w0
 simp only [argE,List.cons_append,List.nil_append,Nat.zero_add,Nat.reduceAdd]
 refine qG (qC (.q 0 (.q 1 (.q 2 (.done)))) Kr ?_)
 refine qP (j:=0) rfl rfl rfl rfl α'50 Tk Az (by rfl) ?_
 refine cH rfl rfl rfl rfl υ'50 ?_
 refine qK rfl rfl rfl rfl (qS (qQ (kS ?_)))
 refine cD (α:=Nat × σ) (fun (x_:Nat × σ)=>match x_ with | (i,s)=>i≤n∧(I i s)) (fun (x_:Nat × σ)=>match x_ with | (i,s)=>[(7,.int .i64 ((i:Nat):Int))]) (fun (x_:Nat × σ)=>match x_ with | (i,s)=>[JL none,J s]) (fun (x_:Nat × σ)=>match x_ with | (i,s)=>n - i) [0,5,6] (er:=[(0,_),(5,_),(6,_)]) rfl (0,s0) ?_ (by exact ⟨rfl,trivial⟩) (by (try dsimp only);(try simp only [Nat.add_zero,Nat.zero_add]);(repeat ((with_reducible apply Z2);focus (first | (with_reducible (repeat (first | exact Z0 | apply Z1));done) | (repeat (first | exact Z0 | apply Z1)))));exact Z3) ?_
 · exact ⟨Nat.zero_le _,h0⟩
 rintro ⟨i,s⟩ ⟨hle_i,hI⟩
 try simp only [List.cons_append,List.nil_append]
 refine qG (qC (.q 0 (.done)) Kr ?_)
 refine qN rfl rfl rfl rfl rfl (sK _ _ _ _) ?_
 refine qS (qQ (qG ?_))
 refine qB rfl (fun hlt=>?_) (fun hlt=>?_)
 ·
  refine qF (qQ (qG (kS (qG (qC (.q 0 (.q 1 (.q 2 (.q 3 (.q 4 (.done)))))) Kr ?_)))))
  refine qK rfl rfl rfl rfl ?_
  obtain ⟨x,hx⟩:=cP (l:=l) (i:=i) (by first | omega | (simp;done) | (simp;omega))
  refine rC (sz:=0) (k:=i) rfl rfl rfl rfl rfl υ'50 ζ'48 (hr) hx encU_len (by first | rfl | omega) Om ?_
  intro ib10 io10 _ hd10
  refine q_load rfl rfl rfl rfl α'48 Tk (hd10 0 (.int .u64 x) rfl) ?_
  refine qR rfl rfl rfl rfl (qR rfl rfl rfl rfl (qS (qW [0,3,4,5,6,7] (e':=[(0,_),(3,_),(4,_),(5,_),(6,_),(7,_)]) rfl ?_)))
  refine qQ (qG (qC (.q 0 (.q 1 (.q 2 (.q 3 (.q 4 (.q 5 ((.l 6 [] (.q 7 (.q 8 (.done))))))))))) Kr ?_))
  refine qK rfl rfl rfl rfl (qN rfl rfl rfl rfl rfl (b_neq _ _ _ _) ?_)
  refine qK rfl rfl rfl rfl ?_
  refine cL 14 rfl (fun hxz=>?_) (fun hxz=>?_)
  ·
   refine qK rfl rfl rfl rfl (qK rfl rfl rfl rfl (qK rfl rfl rfl rfl (l_callF rfl rfl rfl rfl rfl (hy i x s hx hxz hI) Ts ?_)))
   rintro ⟨s2,p⟩ hr2
   try simp only [List.cons_append,List.nil_append]
   refine qV (rL rfl rfl rfl rfl ?_)
   refine kZ rfl rfl rfl rfl rfl (qS (qW [0,5,6,7,15,16,17,18,19,20] (e':=[(0,_),(5,_),(6,_),(7,_),(15,_),(16,_),(17,_),(18,_),(19,_),(20,_)]) rfl ?_))
   refine qQ ?_
   refine c_cond rfl (fun hp=>?_) (fun hp=>?_)
   ·
    try simp only [Bool.and_eq_true,Bool.or_eq_true,Bool.not_eq_true',Bool.not_eq_false',Bool.and_eq_false_iff,Bool.or_eq_false_iff,decide_eq_true_eq,decide_eq_false_iff_not] at hp
    obtain ⟨c_,rfl⟩:∃ c,p=some c:=by
      cases p with
      | none=>simp at hp
      | some c=>exact ⟨c,rfl⟩
    refine qJ (cC (qD (qD (cC (rR rfl ((s2,some c_)) (by first | rfl | (first | rfl | (congr 1;done) | (congr 1 <;> first | rfl | omega | (simp;done) | (simp;omega)))) (by exact .inr ⟨c_,rfl,hr2.2 c_ rfl⟩) ?_)))))
    exact Tf
   try simp only [Bool.and_eq_true,Bool.or_eq_true,Bool.not_eq_true',Bool.not_eq_false',Bool.and_eq_false_iff,Bool.or_eq_false_iff,decide_eq_true_eq,decide_eq_false_iff_not] at hp
   obtain rfl:p=none:=by
     cases p with
     | none=>rfl
     | some c=>simp at hp
   refine qF (kK (qQ (qC (.q 0 (.q 1 (.done))) Kr ?_)))
   refine qN rfl rfl rfl rfl rfl (cV _ (by exact kG Om Om)) ?_
   refine qK rfl rfl rfl rfl (qS (qQ ?_))
   refine cQ (x:=(i,s)) ((i+1,s2)) ?_ ?_ ?_ ?_
   · try dsimp only
     exact ⟨by omega,hr2.1 rfl⟩
   · show n - (i+1) < n - i;omega
   · exact ⟨rfl,rfl,rfl,rfl,trivial⟩
   · (try simp only [List.cons_append,List.nil_append]);exact Tf
  refine qY rfl rfl rfl rfl (qY rfl rfl rfl rfl (qY rfl rfl rfl rfl (sZ rfl rfl rfl rfl ?_)))
  refine qY rfl rfl rfl rfl (kC rfl rfl rfl rfl rfl (qS (qW [0,5,6,7,15,16,17,18,19,20] (e':=[(0,_),(5,_),(6,_),(7,_),(15,_),(16,_),(17,_),(18,_),(19,_),(20,_)]) rfl ?_)))
  refine qQ (kB rfl ?_)
  refine qF (kK (qQ (qC (.q 0 (.q 1 (.done))) Kr ?_)))
  refine qN rfl rfl rfl rfl rfl (cV _ (by exact kG Om Om)) ?_
  refine qK rfl rfl rfl rfl (qS (qQ ?_))
  refine cQ (x:=(i,s)) ((i+1,s)) ?_ ?_ ?_ ?_
  · try dsimp only
    exact ⟨by omega,hz i s (by rw [hx];congr 1;omega) hI⟩
  · show n - (i+1) < n - i;omega
  · exact ⟨rfl,rfl,rfl,rfl,trivial⟩
  · (try simp only [List.cons_append,List.nil_append]);exact Tf
 refine cM (qZ (qZ (kV (sR ?_))))
 refine rR rfl ((s,none)) (by first | rfl | (first | rfl | (congr 1;done) | (congr 1 <;> first | rfl | omega | (simp;done) | (simp;omega)))) (by exact .inl ⟨rfl,(show i=n by omega) ▸ hI⟩) ?_
 exact Tf
theorem leq_spec (b b2:Nat) (l m:List Int) (ao ao2:Option Addr) (n cap n2 cap2:Nat) (hn:l.length=n) (hn2:m.length=n2) (hlr:CV l) (hmr:CV m):Spec Try.prog 88 [.pointer (some ⟨b,0,none⟩),.pointer (some ⟨b2,0,none⟩)] [cells b 0 [.slice ao n cap],own 1 encU ao cap l,cells b2 0 [.slice ao2 n2 cap2],own 1 encU ao2 cap2 m] (fun (_:Unit)=>.bool (decide (LeqL l m))) (fun _=>True) (fun _=>[cells b 0 [.slice ao n cap],own 1 encU ao cap l,cells b2 0 [.slice ao2 n2 cap2],own 1 encU ao2 cap2 m]):=by
 refine spec_mkM (n:=42) Try.func88 rfl rfl rfl ?_
 intro Γ w0
 simp only [argE,List.cons_append,List.nil_append,Nat.zero_add,Nat.reduceAdd]
 have hlr1:=hlr.len
 have hmr1:=hmr.len
 refine qG (qC ((.l 0 [] ((.l 1 [] (.done))))) Kr ?_)
 refine sX rfl rfl rfl rfl (us:=[_]) rfl ?_
 intro b3
 refine qV (cF rfl rfl rfl Try.zeroValue4 (zs:=[.bool false]) rfl ?_)
 intro b4
 refine qV (qS (qQ (qG (qG (kX rfl (.q 0 (.q 1 (.q 2 (.q 3 (.q 4 (.q 5 (.q 6 (.q 7 (.q 8 (.q 9 (.q 10 (.q 11 (.q 12 (.q 13 (.q 14 (.q 15 (.q 16 (.q 17 (.q 18 (.done)))))))))))))))))))) Kr ?_)))))
 refine qK rfl rfl rfl rfl (cY rfl rfl rfl rfl υ'86 ?_)
 refine kH 8 rfl (v':=.bool false) rfl ?_
 refine qK rfl rfl rfl rfl (qP (j:=0) rfl rfl rfl rfl α'86 Tk Az (by rfl) ?_)
 refine cY rfl rfl rfl rfl υ'86 ?_
 refine kH 11 rfl (v':=.bool false) rfl ?_
 refine kC rfl rfl rfl rfl rfl (qK rfl rfl rfl rfl (qK rfl rfl rfl rfl (qX rfl rfl rfl rfl (qL (k:=0) rfl rfl rfl rfl υ'134 rfl ζ'50 rfl ?_))))
 refine qP (j:=0) rfl rfl rfl rfl α'50 Tk Az (by rfl) ?_
 refine cH rfl rfl rfl rfl υ'50 ?_
 refine qP (j:=0) rfl rfl rfl rfl α'86 Tk Az (by rfl) ?_
 refine qX rfl rfl rfl rfl (qL (k:=0) rfl rfl rfl rfl υ'134 rfl ζ'50 rfl ?_)
 refine qP (j:=0) rfl rfl rfl rfl α'50 Tk Az (by rfl) ?_
 refine cH rfl rfl rfl rfl υ'50 ?_
 refine qN rfl rfl rfl rfl rfl (b_gtr _ _ _ _) ?_
 refine kC rfl rfl rfl rfl rfl (qS (qW [0,3,4,25] (e':=[(0,_),(3,_),(4,_),(25,_)]) rfl ?_))
 refine qQ ?_
 refine qB rfl (fun hlen=>?_) (fun hlen=>?_)
 ·
  have hnl:¬ LeqL l m:=fun h=>by have:=h.1;omega
  refine qG (qC ((.l 0 [] (.done))) Kr ?_)
  refine kR (j:=0) rfl rfl rfl rfl ζ'4 (us:=[_]) rfl rfl rfl Tk Az (by first | decide | (simp;done) | omega) ?_
  simp only [setL,List.set]
  refine qV (qS (qQ (qJ (qD (rm_ret ?_)))))
  refine rm_done (us:=[_]) rfl ⟨rv_cell1 rfl α'4 Tk (j:=0) rfl rfl,trivial⟩ (()) (by rw [decide_eq_false hnl];rfl) (by trivial) ?_
  exact Tf
 refine qF (qQ (qG (qG (qC (.q 0 (.q 1 (.q 2 (.q 3 ((.l 4 [] (.done))))))) Kr ?_))))
 refine qK rfl rfl rfl rfl (qX rfl rfl rfl rfl (qL (k:=0) rfl rfl rfl rfl υ'134 rfl ζ'50 rfl ?_))
 refine qP (j:=0) rfl rfl rfl rfl α'50 Tk Az (by rfl) ?_
 have sp_1:=over_spec ao n cap
 refine qM rfl rfl rfl rfl rfl rfl Try.call102 (sp_1) Ts ?_
 rintro bx -
 try simp only [List.cons_append,List.nil_append]
 refine qV (qS (qW [3,4,30] (e':=[(3,_),(4,_),(30,_)]) rfl ?_))
 refine qQ (kS (cK (A:=own 1 encU ao cap l) Tk ?_))
 refine rQ fun hp1 hp2 hp3=>?_
 refine kF (fun _ h=>Bun.fold ((by (repeat ((with_reducible apply Z2);focus (first | (with_reducible (repeat (first | exact Z0 | apply Z1));done) | (repeat (first | exact Z0 | apply Z1)))));exact Z3:Takes _ [cells b3 0 [.pointer (some ⟨b2,0,none⟩)],cells b2 0 [.slice ao2 n2 cap2],own 1 encU ao2 cap2 m,cells b4 0 [.bool false]] _) _ h)) ?_
 refine c_rangeF _ rfl Try.call106 (fun lp=>over1_spec (σ:=Unit) l ao n cap bx (own 1 encU ao cap l) hn (sD encU_len (fun h=>(hp2 h).1) hp3) Om (yv lp) (LoopJ lp _ _ _ _ _) (fun _=>Bun [cells b3 0 [.pointer (some ⟨b2,0,none⟩)],cells b2 0 [.slice ao2 n2 cap2],own 1 encU ao2 cap2 m,cells b4 0 [.bool false]]) (fun i _=>∀ j,j < i→l.getD j 0≤m.getD j 0) (fun _ c=>c=.ret∧¬ LeqL l m) (fun i x s hx hxz hI=>callF_yield rfl (by decide) (by decide) (fun Γ w0=>?_)) (fun i s hx hI j hj=>if h:j < i then hI j h else by obtain rfl:j=i:=Om;rw [getD_mem hx];exact (g_rng hmr.rng (by decide) j).1) () (fun j h=>by omega)) Ts ?_
 ·
  try simp only [zipE,List.cons_append,List.nil_append]
  refine cK (A:=Bun [cells b3 0 [.pointer (some ⟨b2,0,none⟩)],cells b2 0 [.slice ao2 n2 cap2],own 1 encU ao2 cap2 m,cells b4 0 [.bool false]]) Tk ?_
  refine s_bun ?_
  try simp only [List.cons_append,List.nil_append]
  have hil:i < l.length:=(List.getElem?_eq_some_iff.1 hx).1
  obtain ⟨y,hy⟩:=cP (l:=m) (i:=i) Om
  refine qG (qC (.q 0 (.done)) Kr ?_)
  refine qR rfl rfl rfl rfl (qS (qQ (qC (.q 0 (.done)) Kr ?_)))
  refine qR rfl rfl rfl rfl (qS (qQ (k_begin Tk ?_)))
  refine kS (qG (qC (.q 0 (.q 1 (.q 2 (.q 3 (.q 4 (.q 5 (.q 6 (.q 7 (.q 8 (.done)))))))))) Kr ?_))
  refine qK rfl rfl rfl rfl (qP (j:=0) rfl rfl rfl rfl α'86 Tk Az (by rfl) ?_)
  refine qX rfl rfl rfl rfl (qL (k:=0) rfl rfl rfl rfl υ'134 rfl ζ'50 rfl ?_)
  refine qP (j:=0) rfl rfl rfl rfl α'50 Tk Az (by rfl) ?_
  refine qK rfl rfl rfl rfl (kY (sz:=0) (k:=i) (enc:=encU) (xs:=m) rfl rfl rfl rfl rfl υ'50 ζ'48 hy (by first | rfl | omega) Om Tk ?_)
  intro ib39 io39 ha39 hl39 hc39
  refine kQ (v:=(.int .u64 y)) (j:=0) (k':=i) (enc:=encU) (off:=io39) rfl rfl rfl rfl α'48 ha39 encU_len hy Tk (by first | rfl | exact (Nat.add_zero _).symm | omega) (by rfl) ?_
  refine qN rfl rfl rfl rfl rfl (b_gtr _ _ _ _) ?_
  refine qS (qW [4,41] (e':=[(4,_),(41,_)]) rfl ?_)
  refine qQ ?_
  refine qB rfl (fun hgt=>?_) (fun hgt=>?_)
  ·
   refine qG (qC ((.l 0 [] (.done))) Kr ?_)
   refine kR (j:=0) rfl rfl rfl rfl ζ'4 (us:=[_]) rfl rfl rfl Tk Az (by first | decide | (simp;done) | omega) ?_
   simp only [setL,List.set]
   refine qV (qS (qQ (qJ (cC (kF (fun _ h=>Bun.fold ((by (repeat ((with_reducible apply Z2);focus (first | (with_reducible (repeat (first | exact Z0 | apply Z1));done) | (repeat (first | exact Z0 | apply Z1)))));exact Z3:Takes _ [cells b3 0 [.pointer (some ⟨b2,0,none⟩)],cells b2 0 [.slice ao2 n2 cap2],own 1 encU ao2 cap2 m,cells b4 0 [.bool false]] _) _ h)) ?_)))))
   refine rr_ret (((),some .ret)) (by rfl) (by exact ⟨fun h=>(by cases h),fun c hc=>(by cases hc;exact ⟨rfl,fun h=>(by have:=h.2 i hil;rw [getD_mem hx,getD_mem hy] at this;omega)⟩)⟩) Tk ?_
   (try simp only [List.cons_append,List.nil_append]);exact Tf
  refine qF (kK (kF (fun _ h=>Bun.fold ((by (repeat ((with_reducible apply Z2);focus (first | (with_reducible (repeat (first | exact Z0 | apply Z1));done) | (repeat (first | exact Z0 | apply Z1)))));exact Z3:Takes _ [cells b3 0 [.pointer (some ⟨b2,0,none⟩)],cells b2 0 [.slice ao2 n2 cap2],own 1 encU ao2 cap2 m,cells b4 0 [.bool false]] _) _ h)) ?_))
  refine rr_n (((),none)) (by rfl) (by exact ⟨fun _ j hj=>(by
      by_cases h:j < i
      · exact hI j h
      · obtain rfl:j=i:=Om
        rw [getD_mem hx,getD_mem hy];omega),fun c hc=>(by cases hc)⟩) Tk ?_
  (try simp only [List.cons_append,List.nil_append]);exact Tf
 rintro ⟨⟨⟩,p1⟩ (⟨h1,h2⟩ | ⟨c_,h1,h2⟩) blk_2
 try simp only [List.cons_append,List.nil_append]
 ·
  simp only at h1 h2
  subst h1
  have hle:LeqL l m:=⟨by omega,fun j hj=>h2 j Om⟩
  show Le _ _
  try simp only [List.cons_append,List.nil_append]
  refine cK (A:=Bun [cells b3 0 [.pointer (some ⟨b2,0,none⟩)],cells b2 0 [.slice ao2 n2 cap2],own 1 encU ao2 cap2 m,cells b4 0 [.bool false]]) Tk ?_
  refine s_bun ?_
  try simp only [List.cons_append,List.nil_append]
  refine kK (qQ (qG (qC ((.l 0 [] (.done))) Kr ?_)))
  refine kR (j:=0) rfl rfl rfl rfl ζ'4 (us:=[_]) rfl rfl rfl Tk Az (by first | decide | (simp;done) | omega) ?_
  simp only [setL,List.set]
  refine qV (qS (qQ (qJ (rm_ret ?_))))
  refine rm_mark (blk:=blk_2) Tk ?_
  refine rm_done (us:=[_]) rfl ⟨rv_cell1 rfl α'4 Tk (j:=0) rfl rfl,trivial⟩ (()) (by rw [decide_eq_true hle];rfl) (by trivial) ?_
  exact Tf
 simp only at h1 h2
 obtain ⟨hc1,hnl⟩:=h2
 subst hc1
 subst h1
 show Le _ _
 try simp only [List.cons_append,List.nil_append]
 refine cK (A:=Bun [cells b3 0 [.pointer (some ⟨b2,0,none⟩)],cells b2 0 [.slice ao2 n2 cap2],own 1 encU ao2 cap2 m,cells b4 0 [.bool false]]) Tk ?_
 refine s_bun ?_
 try simp only [List.cons_append,List.nil_append]
 refine qJ (cC (qD (rm_ret ?_)))
 refine rm_mark (blk:=blk_2) Tk ?_
 refine rm_done (us:=[_]) rfl ⟨rv_cell1 rfl α'4 Tk (j:=0) rfl rfl,trivial⟩ (()) (by rw [decide_eq_false hnl];rfl) (by trivial) ?_
 exact Tf
/-- How two vectors stand. -/
def agn (l m:List Int):Int:=if LeqL l m then (if LeqL m l then 1 else 2) else (if LeqL m l then 3 else 4)
theorem list_spec (b:Nat) (l:List Int) (ao:Option Addr) (n cap:Nat) (hn:l.length=n) (hb:n≤4000000000):Spec Try.prog 62 [.pointer (some ⟨b,0,none⟩)] [cells b 0 [.slice ao n cap],own 1 encU ao cap l] (fun (r:Option Addr × Nat)=>.slice r.1 n r.2) (fun r=>True) (fun r=>[cells b 0 [.slice ao n cap],own 1 encU ao cap l,own 1 encU r.1 r.2 l]):=by
 refine kP (n:=10) Try.func62 rfl rfl rfl ?_
 intro Γ w0
 simp only [argE,List.cons_append,List.nil_append,Nat.zero_add,Nat.reduceAdd]
 refine qG (qC (.q 0 (.done)) Kr ?_)
 refine qR rfl rfl rfl rfl (qS (qQ (qG (qG (qC (.q 0 (.q 1 (.done))) Kr ?_)))))
 refine qK rfl rfl rfl rfl (cY rfl rfl rfl rfl υ'86 ?_)
 refine kH 4 rfl (v':=.bool false) rfl ?_
 refine qS (qQ (kB rfl ?_))
 refine qF (qQ (qG (qC (.q 0 (.q 1 (.q 2 (.q 3 ((.l 4 [] (.q 5 (.done)))))))) Kr ?_)))
 refine qK rfl rfl rfl rfl (qX rfl rfl rfl rfl (qL (k:=0) rfl rfl rfl rfl υ'134 rfl ζ'50 rfl ?_))
 refine qP (j:=0) rfl rfl rfl rfl α'50 Tk Az (by rfl) ?_
 refine cK (A:=own 1 encU ao cap l) Tk ?_
 refine rQ fun f_1a f_1b f_1c=>?_
 have sp_2:=clone_spec l ao n cap (own 1 encU ao cap l) Ln (sD encU_len (fun h=>(f_1b h).1) f_1c) Om
 refine qM rfl rfl rfl rfl rfl rfl Try.call93 (sp_2) Ts ?_
 rintro ⟨qa,qc⟩ -
 try simp only [List.cons_append,List.nil_append]
 refine qV (qR rfl rfl rfl rfl (qS (qW [2] (e':=[(2,_)]) rfl ?_)))
 refine qQ (qJ (cR rfl rfl ((qa,qc)) (by first | rfl | (first | rfl | (congr 1;done) | (congr 1 <;> first | rfl | omega | (simp;done) | (simp;omega)))) (by trivial) ?_))
 exact Tf
end Go.Ab.Vc
set_option linter.unusedVariables false
set_option linter.unusedSimpArgs false
set_option maxRecDepth 100000
namespace Go.Ab.Vc
open Go Go.Proofs Go.Ab
theorem g_out {l:List Int} {i:Nat} (h:l.length≤i):l.getD i 0=0:=by simp only [List.getD_eq_getElem?_getD];rw [List.getElem?_eq_none h];rfl
/-- What is met so far, up to thread i. -/
def mtI (l m:List Int) (i:Nat):List Int:=(List.range l.length).map fun k=>if k < i then min (l.getD k 0) (m.getD k 0) else l.getD k 0
/-- The meet of two. -/
def mt (l m:List Int):List Int:=tr (mtI l m l.length)
def mtA (l:List Int) (os:List K):List Int:=os.foldl (fun l x=>mt l x.2.2.2) l
theorem leq_iff {l m:List Int} (hl:CV l) (hm:CV m):LeqL l m↔∀ i,l.getD i 0≤m.getD i 0:=by
  constructor
  · intro h i
    by_cases hi:i < l.length
    · exact h.2 i hi
    · rw [g_out (l:=l) Om];exact (g_rng hm.rng (by decide) i).1
  · intro h
    refine ⟨?_,fun i _=>h i⟩
    rcases Nat.lt_or_ge m.length l.length with h1 | h1
    · rcases hl.tr with e | e
      · rw [e] at h1;exact absurd h1 (by simp)
      · have h2:=h (l.length - 1)
        rw [g_out (l:=m) Om] at h2
        have:=(g_rng hl.rng (by decide) (l.length - 1)).1
        omega
    · exact h1
/-- The clocks that fit. -/
def fitL (xs:List Int):List Int:=(xs.take 300).map (fun x=>x % 281474976710656)
theorem get_spec (b:Nat) (l:List Int) (ao:Option Addr) (n cap:Nat) (hn:l.length=n) (i:Nat):Spec Try.prog 48 [.pointer (some ⟨b,0,none⟩),.int .i64 ((i:Nat):Int)] [cells b 0 [.slice ao n cap],own 1 encU ao cap l] (fun (_:Unit)=>.int .u64 (l.getD i 0)) (fun _=>True) (fun _=>[cells b 0 [.slice ao n cap],own 1 encU ao cap l]):=by
 refine kP (n:=27) Try.func48 rfl rfl rfl ?_
 intro Γ w0
 simp only [argE,List.cons_append,List.nil_append,Nat.zero_add,Nat.reduceAdd]
 refine qG (qC (.q 0 (.done)) Kr ?_)
 refine qR rfl rfl rfl rfl (qS (qQ (qG (qG (qC (.q 0 (.q 1 (.q 2 (.q 3 (.q 4 (.q 5 (.q 6 (.q 7 (.q 8 (.q 9 (.q 10 (.q 11 (.q 12 (.q 13 (.q 14 (.done)))))))))))))))) Kr ?_)))))
 refine qK rfl rfl rfl rfl (cY rfl rfl rfl rfl υ'86 ?_)
 refine kH 6 rfl (v':=.bool false) rfl ?_
 refine qK rfl rfl rfl rfl (qK rfl rfl rfl rfl (qN rfl rfl rfl rfl rfl (sK _ _ _ _) ?_))
 refine kC rfl rfl rfl rfl rfl (qK rfl rfl rfl rfl ?_)
 refine cL 11 rfl (fun hg=>by exfalso;omega) (fun hg=>?_)
 refine qK rfl rfl rfl rfl (qK rfl rfl rfl rfl (qX rfl rfl rfl rfl (qL (k:=0) rfl rfl rfl rfl υ'134 rfl ζ'50 rfl ?_)))
 refine qP (j:=0) rfl rfl rfl rfl α'50 Tk Az (by rfl) ?_
 refine cH rfl rfl rfl rfl υ'50 ?_
 refine qN rfl rfl rfl rfl rfl (b_geq _ _ _ _) ?_
 refine kC rfl rfl rfl rfl rfl (qS (qW [0,1,19] (e':=[(0,_),(1,_),(19,_)]) rfl ?_))
 refine qQ ?_
 refine qB rfl (fun hge=>?_) (fun hge=>?_)
 ·
  refine qG (qC (.q 0 (.done)) Kr ?_)
  refine qR rfl rfl rfl rfl (qS (qQ (qJ (qD (cR rfl rfl (()) (by rw [g_out Om]) (by trivial) ?_)))))
  exact Tf
 obtain ⟨x,hx⟩:=cP (l:=l) (i:=i) Om
 refine qF (qQ (qG (qC (.q 0 (.q 1 (.q 2 (.q 3 (.q 4 (.q 5 (.q 6 (.q 7 (.done))))))))) Kr ?_)))
 refine qK rfl rfl rfl rfl (qX rfl rfl rfl rfl (qL (k:=0) rfl rfl rfl rfl υ'134 rfl ζ'50 rfl ?_))
 refine qP (j:=0) rfl rfl rfl rfl α'50 Tk Az (by rfl) ?_
 refine qK rfl rfl rfl rfl (kY (sz:=0) (k:=i) (enc:=encU) (xs:=l) rfl rfl rfl rfl rfl υ'50 ζ'48 hx (by first | rfl | omega) Om Tk ?_)
 intro ib25 io25 ha25 hl25 hc25
 refine kQ (v:=(.int .u64 x)) (j:=0) (k':=i) (enc:=encU) (off:=io25) rfl rfl rfl rfl α'48 ha25 encU_len hx Tk (by first | rfl | exact (Nat.add_zero _).symm | omega) (by rfl) ?_
 refine qR rfl rfl rfl rfl (qS (qW [4] (e':=[(4,_)]) rfl ?_))
 refine qQ (qJ (cR rfl rfl (()) (by rw [getD_mem hx]) (by trivial) ?_))
 exact Tf
theorem copy_spec (b:Nat) (l:List Int) (ao:Option Addr) (n cap:Nat) (hn:l.length=n) (hb:n≤4000000000):Spec Try.prog 65 [.pointer (some ⟨b,0,none⟩)] [cells b 0 [.slice ao n cap],own 1 encU ao cap l] (fun (r:Nat × Option Addr × Nat)=>.pointer (some ⟨r.1,0,none⟩)) (fun r=>True) (fun r=>[cells b 0 [.slice ao n cap],own 1 encU ao cap l,cells r.1 0 [.slice r.2.1 n r.2.2],own 1 encU r.2.1 r.2.2 l]):=by
 refine kP (n:=21) Try.func65 rfl rfl rfl ?_
 intro Γ w0
 simp only [argE,List.cons_append,List.nil_append,Nat.zero_add,Nat.reduceAdd]
 refine qG (qC (.q 0 (.done)) Kr ?_)
 refine qR rfl rfl rfl rfl (qS (qQ (qG (qG (qC (.q 0 (.q 1 (.done))) Kr ?_)))))
 refine qK rfl rfl rfl rfl (cY rfl rfl rfl rfl υ'86 ?_)
 refine kH 5 rfl (v':=.bool false) rfl ?_
 refine qS (qQ (kB rfl ?_))
 refine qF (qQ (qG (qC (.q 0 (.q 1 (.q 2 (.q 3 (.q 4 ((.l 5 [] (.q 6 (.done))))))))) Kr ?_)))
 refine qK rfl rfl rfl rfl (qX rfl rfl rfl rfl (qL (k:=0) rfl rfl rfl rfl υ'134 rfl ζ'50 rfl ?_))
 refine qP (j:=0) rfl rfl rfl rfl α'50 Tk Az (by rfl) ?_
 refine cH rfl rfl rfl rfl υ'50 ?_
 refine l_make (sz:=1) (enc:=encU) (len:=n) (cap:=n) (0) rfl rfl rfl rfl rfl (by first | rfl | omega) (by first | rfl | omega) υ'50 τ'48 rfl rfl rfl (by decide) Om Om (by show 8*_≤_;omega) (by rfl) (encU_len) ?_
 intro b11
 refine qV (qR rfl rfl rfl rfl (qS (qW [0,3] (e':=[(0,_),(3,_)]) rfl ?_)))
 refine qQ (qG (qC (.q 0 (.q 1 (.q 2 (.q 3 (.q 4 ((.l 5 [] (.done)))))))) Kr ?_))
 refine qK rfl rfl rfl rfl (qK rfl rfl rfl rfl (qX rfl rfl rfl rfl (qL (k:=0) rfl rfl rfl rfl υ'134 rfl ζ'50 rfl ?_)))
 refine qP (j:=0) rfl rfl rfl rfl α'50 Tk Az (by rfl) ?_
 refine cK (A:=own 1 encU ao cap l) Tk ?_
 refine rQ fun f_1a f_1b f_1c=>?_
 refine l_copy (sz:=1) (enc:=encU) (xs:=(List.replicate n 0)) (ys:=l) (A:=own 1 encU ao cap l) rfl rfl rfl rfl rfl υ'50 ζ'48 (by decide) encU_len encU_one Tk Tk (sD encU_len (fun h=>(f_1b h).1) f_1c) Ln (by exact hn) Om ?_
 rw [show (l++(List.replicate n 0).drop n)=l from by simp]
 refine qV (qS (qW [3] (e':=[(3,_)]) rfl ?_))
 refine qQ (qG (qC (.q 0 (.q 1 ((.l 2 [] (.q 3 (.done)))))) Kr ?_))
 refine qK rfl rfl rfl rfl (cX rfl rfl rfl rfl (vs:=[_]) (kM υ'134 Try.zeroValue134 (ps:=[(0,1)]) ⟨rfl,ζ'50,trivial⟩ rfl) ?_)
 refine sX rfl rfl rfl rfl (us:=[_]) rfl ?_
 intro b20
 refine qV (qR rfl rfl rfl rfl (qS (qW [2] (e':=[(2,_)]) rfl ?_)))
 refine qQ (qJ (cR rfl rfl ((b20,some ⟨b11,0,none⟩,n)) (by first | rfl | (first | rfl | (congr 1;done) | (congr 1 <;> first | rfl | omega | (simp;done) | (simp;omega)))) (by trivial) ?_))
 exact Tf
end Go.Ab.Vc
set_option linter.unusedVariables false
set_option linter.unusedSimpArgs false
set_option maxRecDepth 100000
namespace Go.Ab.Vc
open Go Go.Proofs Go.Ab
theorem rds_take {α:Type} {A:HProp} {ao:Option Addr} {sz:Nat} {enc:α→List Value} {xs:List α} (h:RdS A ao (xs.flatMap enc)) (hsz:∀ x,(enc x).length=sz) (k:Nat):RdS A ao ((xs.take k).flatMap enc):=by
  rcases h with h | ⟨b,o,h1,h2⟩
  · left
    rw [← List.take_append_drop k xs,List.flatMap_append,List.append_eq_nil_iff] at h
    exact h.1
  · refine .inr ⟨b,o,h1,fun i v hv=>h2 i v ?_⟩
    rw [← List.take_append_drop k xs,List.flatMap_append,List.getElem?_append_left]
    · exact hv
    · exact (List.getElem?_eq_some_iff.1 hv).1
end Go.Ab.Vc
set_option linter.unusedVariables false
set_option linter.unusedSimpArgs false
set_option maxRecDepth 100000
namespace Go.Ab.Vc
open Go Go.Proofs Go.Ab
/-- A clock set. -/
def stL (l:List Int) (i:Nat) (v:Int):List Int:=tr ((pd l (i+1)).set i v)
theorem stL_g (l:List Int) (i:Nat) (v:Int) (k:Nat):(stL l i v).getD k 0=if k=i then v else l.getD k 0:=by
  rw [stL,tr_g]
  have hp:i < (pd l (i+1)).length:=by rw [pd_len];omega
  by_cases hk:k=i
  · subst hk;rw [if_pos rfl];exact getD_mem (List.getElem?_set_self hp)
  · rw [if_neg hk,← pd_g l (i+1) k];simp only [List.getD_eq_getElem?_getD];rw [List.getElem?_set_ne (Ne.symm hk)]
theorem pd_cv {l:List Int} (hl:CV l) (m:Nat):∀ x∈pd l m,0≤x∧x≤maxC:=fun x hx=>by
  rcases List.mem_append.1 hx with h | h
  · exact hl.rng x h
  · rw [(List.mem_replicate.1 h).2];decide
theorem stL_cv {l:List Int} {i:Nat} {v:Int} (hl:CV l) (hi:i < 65535) (h0:0≤v) (h1:v≤maxC):CV (stL l i v):=by
  have h2:=hl.len
  refine tr_cv (by rw [List.length_set,pd_len];omega) fun x hx=>?_
  rcases List.mem_or_eq_of_mem_set hx with h | rfl
  · exact pd_cv hl _ x h
  · exact ⟨h0,h1⟩
/-- A clock one on. -/
def icL (l:List Int) (i:Nat):List Int:=(pd l (i+1)).set i (l.getD i 0+1)
theorem icL_g (l:List Int) (i k:Nat):(icL l i).getD k 0=if k=i then l.getD i 0+1 else l.getD k 0:=by
  have hp:i < (pd l (i+1)).length:=by rw [pd_len];omega
  rw [icL]
  by_cases hk:k=i
  · subst hk;rw [if_pos rfl];exact getD_mem (List.getElem?_set_self hp)
  · rw [if_neg hk,← pd_g l (i+1) k];simp only [List.getD_eq_getElem?_getD];rw [List.getElem?_set_ne (Ne.symm hk)]
theorem icL_cv {l:List Int} {i:Nat} (hl:CV l) (hi:i < 65535) (h1:l.getD i 0 < maxC):CV (icL l i):=by
  have h2:=hl.len
  have h3:=g_rng hl.rng (by decide) i
  have hlen:(icL l i).length=max l.length (i+1):=by rw [icL,List.length_set,pd_len]
  refine ⟨.inr ?_,by omega,fun x hx=>?_⟩
  · rw [hlen,icL_g]
    split
    · omega
    · rename_i h
      have h5:max l.length (i+1) - 1=l.length - 1:=by omega
      rw [h5]
      rcases hl.tr with e | e
      · rw [e] at h;simp at h
      · exact e
  · rcases List.mem_or_eq_of_mem_set hx with h | rfl
    · exact pd_cv hl _ x h
    · omega
theorem nil_cv:CV []:=⟨.inl rfl,by simp,fun x h=>(by cases h)⟩
theorem wrong_spec (b i:Nat) (hi:i < 65535):Spec Try.prog 72 [.pointer (some ⟨b,0,none⟩),.int .i64 ((i:Nat):Int)] [] (fun (_:Unit)=>.int .i64 0) (fun _=>True) (fun _=>[]):=by
 refine kP (n:=15) Try.func72 rfl rfl rfl ?_
 intro Γ w0
 simp only [argE,List.cons_append,List.nil_append,Nat.zero_add,Nat.reduceAdd]
 refine qG (qC (.q 0 (.done)) Kr ?_)
 refine qR rfl rfl rfl rfl (qS (qQ (qG (kS (qG (qC (.q 0 (.q 1 (.q 2 (.done)))) Kr ?_))))))
 refine qK rfl rfl rfl rfl (cY rfl rfl rfl rfl υ'86 ?_)
 refine kH 7 rfl (v':=.bool false) rfl ?_
 refine qR rfl rfl rfl rfl (qS (qW [1,5] (e':=[(1,_),(5,_)]) rfl ?_))
 refine qQ (kB rfl ?_)
 refine qG (qC (.q 0 (.q 1 (.q 2 (.q 3 (.q 4 (.q 5 (.q 6 (.done)))))))) Kr ?_)
 refine qK rfl rfl rfl rfl (qN rfl rfl rfl rfl rfl (sK _ _ _ _) ?_)
 refine qK rfl rfl rfl rfl ?_
 refine cL 11 rfl (fun hg=>by exfalso;omega) (fun hg=>?_)
 refine qK rfl rfl rfl rfl (qN rfl rfl rfl rfl rfl (b_geq _ _ _ _) ?_)
 refine kC rfl rfl rfl rfl rfl (qR rfl rfl rfl rfl (qS (qW [8] (e':=[(8,_)]) rfl ?_)))
 refine qQ ?_
 refine qB rfl (fun hg=>by exfalso;omega) (fun hg=>?_)
 refine qF (kK (qQ (qG (qC (.q 0 (.done)) Kr ?_))))
 refine qR rfl rfl rfl rfl (qS (qQ (qJ (cR rfl rfl (()) (by first | rfl | (first | rfl | (congr 1;done) | (congr 1 <;> first | rfl | omega | (simp;done) | (simp;omega)))) (by trivial) ?_))))
 exact Tf
theorem set_spec (b:Nat) (l:List Int) (ao:Option Addr) (n cap:Nat) (hn:l.length=n) (hl:CV l) (i:Nat) (hi:i < 65535) (v:Int) (hv0:0≤v) (hv1:v≤maxC):Spec Try.prog 30 [.pointer (some ⟨b,0,none⟩),.int .i64 ((i:Nat):Int),.int .u64 v] [cells b 0 [.slice ao n cap],own 1 encU ao cap l] (fun (r:Option Addr × Nat)=>.int .i64 0) (fun r=>True) (fun r=>[cells b 0 [.slice r.1 (stL l i v).length r.2],own 1 encU r.1 r.2 (stL l i v)]):=by
 refine kP (n:=28) Try.func30 rfl rfl rfl ?_
 intro Γ w0
 simp only [argE,List.cons_append,List.nil_append,Nat.zero_add,Nat.reduceAdd]
 have hll:=hl.len
 refine qG (qC (.q 0 (.done)) Kr ?_)
 refine qR rfl rfl rfl rfl (qS (qQ (qG (qG (qC (.q 0 (.q 1 ((.l 2 [] (.q 3 (.done)))))) Kr ?_)))))
 refine qK rfl rfl rfl rfl (qK rfl rfl rfl rfl ?_)
 have sp_1:=wrong_spec b i Om
 refine qM rfl rfl rfl rfl rfl rfl Try.call72 (sp_1) Ts ?_
 rintro ⟨⟩ -
 try simp only [List.cons_append,List.nil_append]
 refine qV (qR rfl rfl rfl rfl (qS (qW [0,1,2,7] (e':=[(0,_),(1,_),(2,_),(7,_)]) rfl ?_)))
 refine qQ (qG (qC (.q 0 (.q 1 (.done))) Kr ?_))
 refine qK rfl rfl rfl rfl (qN rfl rfl rfl rfl rfl (b_neq _ _ _ _) ?_)
 refine kH 12 rfl (v':=.bool false) (by first | rfl | simp) ?_
 refine qS (qQ (kB rfl ?_))
 refine qF (qQ (qG (qG (qC (.q 0 (.q 1 (.done))) Kr ?_))))
 refine qK rfl rfl rfl rfl (qN rfl rfl rfl rfl rfl (b_gtr _ _ _ _) ?_)
 refine qS (qW [0,1,2,15] (e':=[(0,_),(1,_),(2,_),(15,_)]) rfl ?_)
 refine qQ ?_
 refine qB rfl (fun hg=>by exfalso;simp only [maxC] at hv1;omega) (fun hg=>?_)
 refine qF (qQ (qG (qC (.q 0 (.q 1 ((.l 2 [] (.done))))) Kr ?_)))
 refine qK rfl rfl rfl rfl (qK rfl rfl rfl rfl (kH 17 rfl (v':=.int .i64 ((((i+1:Nat)):Int) - 1)) (by congr 1;omega) ?_))
 have sp_2:=reach_spec b l (i+1) ao n cap Ln Om
 refine qM rfl rfl rfl rfl rfl rfl Try.call73 (sp_2) Ts ?_
 rintro ⟨re_a,re_c⟩ -
 try simp only [List.cons_append,List.nil_append]
 refine qV (qS (qW [0,1,2] (e':=[(0,_),(1,_),(2,_)]) rfl ?_))
 refine qQ (qG ?_)
 have hpl:=pd_len l (i+1)
 obtain ⟨x,hx⟩:=cP (l:=pd l (i+1)) (i:=i) Om
 refine qC (.q 0 (.q 1 (.q 2 (.q 3 (.q 4 (.q 5 (.q 6 ((.l 7 [] (.done)))))))))) Kr ?_
 refine qK rfl rfl rfl rfl (qX rfl rfl rfl rfl (qL (k:=0) rfl rfl rfl rfl υ'134 rfl ζ'50 rfl ?_))
 refine qP (j:=0) rfl rfl rfl rfl α'50 Tk Az (by rfl) ?_
 refine qK rfl rfl rfl rfl (qK rfl rfl rfl rfl (kY (sz:=0) (k:=i) (enc:=encU) (xs:=(pd l (i+1))) rfl rfl rfl rfl rfl υ'50 ζ'48 hx (by first | rfl | omega) Om Tk ?_))
 intro ib25 io25 ha25 hl25 hc25
 refine kJ (j:=0) (k:=i) (q:=v) (enc:=encU) (off:=io25) rfl rfl rfl rfl ζ'48 (us:=[_]) rfl rfl rfl ha25 encU_len hx Tk (by first | rfl | exact (Nat.add_zero _).symm | omega) (by first | decide | exact Nat.le_of_ble_eq_true rfl) (by rfl) ?_
 refine qV (qS (qW [0] (e':=[(0,_)]) rfl ?_))
 refine qQ (qG (qC (.q 0 ((.l 1 [] (.done)))) Kr ?_))
 refine qK rfl rfl rfl rfl ?_
 have sp_3:=trim_spec b ((pd l (i+1)).set i v) re_a ((pd l (i+1)).length) re_c (by rw [List.length_set]) Om
 refine qM rfl rfl rfl rfl rfl rfl Try.call74 (sp_3) Ts ?_
 rintro ⟨⟩ -
 try simp only [List.cons_append,List.nil_append]
 refine qV (qS (qQ (qG (qC (.q 0 (.done)) Kr ?_))))
 refine qR rfl rfl rfl rfl (qS (qQ (qJ (cR rfl rfl ((re_a,re_c)) (by first | rfl | (first | rfl | (congr 1;done) | (congr 1 <;> first | rfl | omega | (simp;done) | (simp;omega)))) (by trivial) ?_))))
 exact Tf
theorem inc_spec (b:Nat) (l:List Int) (ao:Option Addr) (n cap:Nat) (hn:l.length=n) (hl:CV l) (i:Nat) (hi:i < 65535) (hlt:l.getD i 0 < maxC):Spec Try.prog 90 [.pointer (some ⟨b,0,none⟩),.int .i64 ((i:Nat):Int)] [cells b 0 [.slice ao n cap],own 1 encU ao cap l] (fun (r:Option Addr × Nat)=>.tuple #[.int .u64 (l.getD i 0+1),.int .i64 0]) (fun r=>True) (fun r=>[cells b 0 [.slice r.1 (icL l i).length r.2],own 1 encU r.1 r.2 (icL l i)]):=by
 refine kP (n:=36) Try.func90 rfl rfl rfl ?_
 intro Γ w0
 simp only [argE,List.cons_append,List.nil_append,Nat.zero_add,Nat.reduceAdd]
 have hll:=hl.len
 refine qG (qC (.q 0 (.q 1 (.done))) Kr ?_)
 refine qR rfl rfl rfl rfl (qR rfl rfl rfl rfl (qS (qQ (qG (qG (qC (.q 0 (.q 1 ((.l 2 [] (.q 3 (.done)))))) Kr ?_))))))
 refine qK rfl rfl rfl rfl (qK rfl rfl rfl rfl ?_)
 have sp_1:=wrong_spec b i Om
 refine qM rfl rfl rfl rfl rfl rfl Try.call72 (sp_1) Ts ?_
 rintro ⟨⟩ -
 try simp only [List.cons_append,List.nil_append]
 refine qV (qR rfl rfl rfl rfl (qS (qW [0,1,6] (e':=[(0,_),(1,_),(6,_)]) rfl ?_)))
 refine qQ (qG (qC (.q 0 (.q 1 (.done))) Kr ?_))
 refine qK rfl rfl rfl rfl (qN rfl rfl rfl rfl rfl (b_neq _ _ _ _) ?_)
 refine kH 11 rfl (v':=.bool false) (by first | rfl | simp) ?_
 refine qS (qQ (kB rfl ?_))
 refine qF (qQ (qG (qG (qC (.q 0 (.q 1 ((.l 2 [] (.q 3 (.done)))))) Kr ?_))))
 refine qK rfl rfl rfl rfl (qK rfl rfl rfl rfl ?_)
 have sp_2:=get_spec b l ao n cap Ln i
 refine qM rfl rfl rfl rfl rfl rfl κ'48 (sp_2) Ts ?_
 rintro ⟨⟩ -
 try simp only [List.cons_append,List.nil_append]
 refine qV (qN rfl rfl rfl rfl rfl (cS _ _ _ _) ?_)
 refine qS (qW [0,1,16] (e':=[(0,_),(1,_),(16,_)]) rfl ?_)
 refine qQ ?_
 refine qB rfl (fun hg=>by exfalso;simp only [maxC] at hlt;omega) (fun hg=>?_)
 refine qF (qQ (qG (qC (.q 0 (.q 1 ((.l 2 [] (.done))))) Kr ?_)))
 refine qK rfl rfl rfl rfl (qK rfl rfl rfl rfl (kH 18 rfl (v':=.int .i64 ((((i+1:Nat)):Int) - 1)) (by congr 1;omega) ?_))
 have sp_3:=reach_spec b l (i+1) ao n cap Ln Om
 refine qM rfl rfl rfl rfl rfl rfl Try.call73 (sp_3) Ts ?_
 rintro ⟨re_a,re_c⟩ -
 try simp only [List.cons_append,List.nil_append]
 refine qV (qS (qW [0,1] (e':=[(0,_),(1,_)]) rfl ?_))
 refine qQ (qG ?_)
 have hpl:=pd_len l (i+1)
 obtain ⟨x,hx⟩:=cP (l:=pd l (i+1)) (i:=i) Om
 have hxe:x=l.getD i 0:=by rw [← pd_g l (i+1) i,getD_mem hx]
 have hgr:=g_rng hl.rng (by decide) i
 refine qC (.q 0 (.q 1 (.q 2 (.q 3 (.q 4 (.q 5 (.q 6 (.q 7 (.q 8 ((.l 9 [] (.done)))))))))))) Kr ?_
 refine qK rfl rfl rfl rfl (qX rfl rfl rfl rfl (qL (k:=0) rfl rfl rfl rfl υ'134 rfl ζ'50 rfl ?_))
 refine qP (j:=0) rfl rfl rfl rfl α'50 Tk Az (by rfl) ?_
 refine qK rfl rfl rfl rfl (kY (sz:=0) (k:=i) (enc:=encU) (xs:=(pd l (i+1))) rfl rfl rfl rfl rfl υ'50 ζ'48 hx (by first | rfl | omega) Om Tk ?_)
 intro ib25 io25 ha25 hl25 hc25
 refine kQ (v:=(.int .u64 x)) (j:=0) (k':=i) (enc:=encU) (off:=io25) rfl rfl rfl rfl α'48 ha25 encU_len hx Tk (by first | rfl | exact (Nat.add_zero _).symm | omega) (by rfl) ?_
 refine qN rfl rfl rfl rfl rfl (cV _ (by exact fits_u64 Om (by simp only [maxC] at hgr;omega))) ?_
 refine kY (sz:=0) (k:=i) (enc:=encU) (xs:=(pd l (i+1))) rfl rfl rfl rfl rfl υ'50 ζ'48 hx (by first | rfl | omega) Om Tk ?_
 intro ib28 io28 ha28 hl28 hc28
 refine kJ (j:=0) (k:=i) (q:=(x+1)) (enc:=encU) (off:=io28) rfl rfl rfl rfl ζ'48 (us:=[_]) rfl rfl rfl ha28 encU_len hx Tk (by first | rfl | exact (Nat.add_zero _).symm | omega) (by first | decide | exact Nat.le_of_ble_eq_true rfl) (by rfl) ?_
 refine qV (qS (qW [0,1] (e':=[(0,_),(1,_)]) rfl ?_))
 refine qQ (qG ?_)
 rw [show (pd l (i+1)).set i (x+1)=icL l i from by rw [icL,hxe]]
 have hx2:(icL l i)[i]?=some (x+1):=by rw [icL,List.getElem?_set_self Om,hxe]
 have hil:(icL l i).length=(pd l (i+1)).length:=by rw [icL,List.length_set]
 refine qC (.q 0 (.q 1 (.q 2 (.q 3 (.q 4 (.q 5 (.q 6 (.q 7 (.q 8 (.done)))))))))) Kr ?_
 refine qK rfl rfl rfl rfl (qX rfl rfl rfl rfl (qL (k:=0) rfl rfl rfl rfl υ'134 rfl ζ'50 rfl ?_))
 refine qP (j:=0) rfl rfl rfl rfl α'50 Tk Az (by rfl) ?_
 refine qK rfl rfl rfl rfl (kY (sz:=0) (k:=i) (enc:=encU) (xs:=(icL l i)) rfl rfl rfl rfl rfl υ'50 ζ'48 hx2 (by first | rfl | omega) Om Tk ?_)
 intro ib34 io34 ha34 hl34 hc34
 refine kQ (v:=(.int .u64 (x+1))) (j:=0) (k':=i) (enc:=encU) (off:=io34) rfl rfl rfl rfl α'48 ha34 encU_len hx2 Tk (by first | rfl | exact (Nat.add_zero _).symm | omega) (by rfl) ?_
 refine qR rfl rfl rfl rfl (qR rfl rfl rfl rfl (qS (qW [4,5] (e':=[(4,_),(5,_)]) rfl ?_)))
 refine qQ (qJ (cK (A:=cells b 0 [.slice re_a (pd l (i+1)).length re_c]) Td ?_))
 refine kF (Γ':=cells b 0 [.slice re_a (icL l i).length re_c]::_) (fun _ h=>(by rw [hil];exact h)) ?_
 refine ret2 rfl rfl rfl ((re_a,re_c)) (by rw [hxe]) (by trivial) ?_
 exact Tf
end Go.Ab.Vc
set_option linter.unusedVariables false
set_option linter.unusedSimpArgs false
set_option maxRecDepth 100000
namespace Go.Ab.Dj
open Go Go.Proofs Go.Ab Go.Ab.Fe Go.Ab.Vc
abbrev evA (a:Option Addr):Value:=.pointer a
abbrev evH (x:Option Addr × Int):Value:=.agg #[.pointer x.1,.int .i64 x.2]
/-- A vector behind a pointer. -/
def vecA (a:Option Addr) (l:List Int):HProp:=fun h=>∃ b ao cap,a=some ⟨b,0,none⟩∧Sat [cells b 0 [.slice ao l.length cap],own 1 encU ao cap l] h
/-- A vector or nil. -/
def optA (a:Option Addr):Option (List Int)→HProp
  | none=>fun _=>a=none
  | some l=>vecA a l
def heldA (v:Option Addr × Int) (t:List Int × Int):HProp:=fun h=>v.2=t.2∧vecA v.1 t.1 h
theorem sat_free {A:HProp} {Γ:List HProp} {h:Hp} (a:A (fun _=>none)) (s:Sat Γ h):Sat (A::Γ) h:=⟨fun _=>none,fun _ _ x=>by simp at x,a,s.mono fun _ _ x=>sP.2 ⟨rfl,x⟩⟩
section
variable {w0:World} {ds:List Deferred} {n:Nat} {e:Env} {Γ Γ':List HProp} {X:Act→World→Prop} {a:Option Addr} {l:List Int}
theorem s_vec (tk:Take Γ (vecA a l) Γ') (k:∀ b ao cap,a=some ⟨b,0,none⟩→Le (St w0 ds n e (cells b 0 [.slice ao l.length cap]::own 1 encU ao cap l::Γ')) X):Le (St w0 ds n e Γ) X:=fun x w s=>by
  obtain ⟨h1,l1,⟨b,ao,cap,ha,a1⟩,s1⟩:=tk _ s.heap
  exact k b ao cap ha x w ⟨s.defers,s.size,s.env,Bun.unfold ⟨h1,l1,a1,s1⟩,s.amb⟩
theorem s_vecF (b:Nat) (ao:Option Addr) (cap:Nat) (l:List Int) (tk:Takes Γ [cells b 0 [.slice ao l.length cap],own 1 encU ao cap l] Γ') (k:Le (St w0 ds n e (vecA (some ⟨b,0,none⟩) l::Γ')) X):Le (St w0 ds n e Γ) X:=kF (fun h s=>by
  obtain ⟨h1,l1,a1,s1⟩:=Bun.fold (tk h s)
  exact ⟨h1,l1,⟨b,ao,cap,rfl,a1⟩,s1⟩) k
theorem s_opt {m:Option (List Int)} (tk:Take Γ (optA a m) Γ') (ha:a≠none) (k:∀ b ao cap l,m=some l→a=some ⟨b,0,none⟩→Le (St w0 ds n e (cells b 0 [.slice ao l.length cap]::own 1 encU ao cap l::Γ')) X):Le (St w0 ds n e Γ) X:=fun x w s=>by
  obtain ⟨h1,l1,a1,s1⟩:=tk _ s.heap
  cases m with
  | none=>exact absurd a1 ha
  | some l =>
    obtain ⟨b,ao,cap,hb,a1⟩:=a1
    exact k b ao cap l rfl hb x w ⟨s.defers,s.size,s.env,Bun.unfold ⟨h1,l1,a1,s1⟩,s.amb⟩
theorem s_opt_nil {m:Option (List Int)} (tk:Take Γ (optA a m) Γ') (ha:a=none) (k:m=none→Le (St w0 ds n e (optA a m::Γ')) X):Le (St w0 ds n e Γ) X:=fun x w s=>by
  have s2:=tk _ s.heap
  obtain ⟨h1,l1,a1,s1⟩:=s2
  cases m with
  | none=>exact k rfl x w ⟨s.defers,s.size,s.env,⟨h1,l1,a1,s1⟩,s.amb⟩
  | some l=>obtain ⟨b,ao,cap,hb,-⟩:=a1;rw [ha] at hb;cases hb
theorem s_optF {l:List Int} (tk:Take Γ (vecA a l) Γ') (k:Le (St w0 ds n e (optA a (some l)::Γ')) X):Le (St w0 ds n e Γ) X:=kF tk k
variable {κ:Type} [DecidableEq κ] {F:κ→Option (Option Addr)} {T:κ→Option (List Int)} {S:List κ}
theorem s_rest_opt (k:κ) (tk:Take Γ (rest vecA F T S) Γ') (hk:k ∉ S) (k1:(T k).isSome=(F k).isSome→Le (St w0 ds n e (optA ((F k).getD none) (T k)::rest vecA F T (k::S)::Γ')) X):Le (St w0 ds n e Γ) X:=fun x w s=>by
  cases hT:T k with
  | none =>
    obtain ⟨hv,h1,l1,a1,s1⟩:=rest_miss hk hT (tk _ s.heap)
    rw [hT] at k1
    exact k1 (by rw [hv];rfl) x w ⟨s.defers,s.size,s.env,sat_free (show optA ((F k).getD none) none _ by rw [hv];rfl) ⟨h1,l1,a1,s1⟩,s.amb⟩
  | some l =>
    obtain ⟨v,hv,s1⟩:=rest_take hk hT (tk _ s.heap)
    rw [hT] at k1
    exact k1 (by rw [hv];rfl) x w ⟨s.defers,s.size,s.env,by rw [hv];exact s1,s.amb⟩
theorem rest_back {k:κ} {h:Hp} (hk:k ∉ S) (hs:(T k).isSome=(F k).isSome) (s:Sat (optA ((F k).getD none) (T k)::rest vecA F T (k::S)::Γ) h):Sat (rest vecA F T S::Γ) h:=by
  cases hT:T k with
  | none =>
    have hF:F k=none:=by rw [hT] at hs;simpa using hs.symm
    obtain ⟨h1,l1,-,s1⟩:=s
    exact rest_none hF (fun _ _ _=>rfl) hT (fun _ _ _=>rfl) (s1.mono (Hmin_le _ _))
  | some l =>
    rw [hT] at s hs
    cases hF:F k with
    | none=>rw [hF] at hs;simp at hs
    | some v =>
      rw [hF] at s
      exact rest_put hk hF (fun _ _ _=>rfl) hT (fun _ _ _=>rfl) s
theorem s_opt_back (k:κ) (tk:Takes Γ [optA ((F k).getD none) (T k),rest vecA F T (k::S)] Γ') (hk:k ∉ S) (hs:(T k).isSome=(F k).isSome) (k1:Le (St w0 ds n e (rest vecA F T S::Γ')) X):Le (St w0 ds n e Γ) X:=kF (fun h s=>rest_back hk hs (tk h s)) k1
variable {G:κ→Option (Option Addr × Int)} {U:κ→Option (List Int × Int)}
end
/-- What the threads know: the checker, the threads' vectors, the locks', the volatiles', the rounds' and how many have not left them. -/
structure VS where
  ck:CS
  th:Int→Option (List Int)
  lk:Int→Option (List Int)
  vo:Int→Option (List Int)
  rd:Int × Int→Option (List Int × Int)
def mgF (m:Option (List Int)) (l:List Int):List Int:=match m with | some q=>jn l q | none=>l
def thF (x:VS) (t:Int):List Int:=(x.th t).getD []
def rdK (x:VS) (t o:Int):Int × Int:=(o,(stF x.ck t).2.2)
def rdF (x:VS) (r:Int × Int):List Int × Int:=(x.rd r).getD ([],0)
def vnF (x:VS) (k t o:Int):VS :=
  if k=5 then ⟨nxF x.ck k t o,upd x.th t (some (mgF (x.lk o) (thF x t))),x.lk,x.vo,x.rd⟩
  else if k=3 then ⟨nxF x.ck k t o,upd x.th t (some (mgF (x.vo o) (thF x t))),x.lk,x.vo,x.rd⟩
  else if k=8 then ⟨nxF x.ck k t o,upd x.th t (some (mgF (x.th o) (thF x t))),x.lk,x.vo,x.rd⟩
  else if k=10 then ⟨nxF x.ck k t o,upd x.th t (some (jn (thF x t) (rdF x (rdK x t o)).1)),x.lk,x.vo,upd x.rd (rdK x t o) (if (rdF x (rdK x t o)).2 - 1≤0 then none else some ((rdF x (rdK x t o)).1,(rdF x (rdK x t o)).2 - 1))⟩
  else if k=6 then ⟨nxF x.ck k t o,upd x.th t (some (icL (thF x t) t.toNat)),upd x.lk o (some (thF x t)),x.vo,x.rd⟩
  else if k=4 then ⟨nxF x.ck k t o,upd x.th t (some (icL (thF x t) t.toNat)),x.lk,upd x.vo o (some (mgF (x.vo o) (thF x t))),x.rd⟩
  else if k=9 then ⟨nxF x.ck k t o,upd x.th t (some (icL (thF x t) t.toNat)),x.lk,x.vo,upd x.rd (o,(opF x.ck o).1) (some (mgF ((x.rd (o,(opF x.ck o).1)).map (·.1)) (thF x t),x.ck.pa.getD o.toNat 0))⟩
  else if k=7 then ⟨nxF x.ck k t o,upd (upd x.th o (some (stL (thF x t) o.toNat 1))) t (some (icL (thF x t) t.toNat)),x.lk,x.vo,x.rd⟩
  else ⟨nxF x.ck k t o,x.th,x.lk,x.vo,x.rd⟩
def relK (k:Int):Prop:=k=6∨k=4∨k=7∨k=9
instance (k:Int):Decidable (relK k):=by unfold relK;infer_instance
/-- May an event be next, by the clocks too? -/
def vcanF (x:VS) (k t o:Int):Prop:=canF x.ck k t o∧(relK k→(thF x t).getD t.toNat 0 < maxC)
instance (x:VS) (k t o:Int):Decidable (vcanF x k t o):=by unfold vcanF;infer_instance
/-- How many threads wait in a round of a barrier. -/
def wtN (c:CS) (b r:Int):Nat:=c.T.countP (fun s=>decide (s=(2,b,r)))
structure VInv (x:VS):Prop where
  ck:CInv x.ck
  th:∀ t,(x.th t).isSome=true↔(stF x.ck t).1≠0
  thc:∀ t l,x.th t=some l→CV l
  lkc:∀ t l,x.lk t=some l→CV l
  voc:∀ t l,x.vo t=some l→CV l
  rdc:∀ r p,x.rd r=some p→CV p.1
  rds:∀ r p,x.rd r=some p→0≤p.2∧p.2≤65535
  wt:∀ b r,((wtN x.ck b r:Nat):Int)≤(rdF x (b,r)).2
  wo:∀ b:Int,0≤b→b < x.ck.B.length→((wtN x.ck b (opF x.ck b).1:Nat):Int)≤(opF x.ck b).2
def vsR (pa:Option Addr) (pc:Nat) (po:Option Addr) (poc b:Nat) (x:VS):HProp:=fun h=>∃ cb m1 m2 m3 m4 F1 F2 F3 F4,Sat [cells b 0 [.pointer (some ⟨cb,0,none⟩),.slice po x.ck.pa.length poc,.map (some m1),.map (some m2),.map (some m3),.map (some m4)],ck pa pc cb x.ck,
  mapO ekZ evA m1 F1,rest vecA F1 x.th [],mapO ekZ evA m2 F2,rest vecA F2 x.lk [],mapO ekZ evA m3 F3,rest vecA F3 x.vo [],mapO ek2 evH m4 F4,rest heldA F4 x.rd []] h
section
variable {w0:World} {ds:List Deferred} {n:Nat} {e:Env} {Γ:List HProp} {X:Act→World→Prop}
end
theorem get_z (b:Nat) (l:List Int) (ao:Option Addr) (n cap:Nat) (hn:l.length=n) (t:Int) (h0:0≤t):Spec Try.prog 48 [.pointer (some ⟨b,0,none⟩),.int .i64 t] [cells b 0 [.slice ao n cap],own 1 encU ao cap l] (fun (_:Unit)=>.int .u64 (l.getD t.toNat 0)) (fun _=>True) (fun _=>[cells b 0 [.slice ao n cap],own 1 encU ao cap l]):=by
  obtain ⟨i,rfl⟩:=Int.eq_ofNat_of_zero_le h0
  exact Vc.get_spec b l ao n cap hn i
theorem set_z (b:Nat) (l:List Int) (ao:Option Addr) (n cap:Nat) (hn:l.length=n) (hl:CV l) (t:Int) (h0:0≤t) (hi:t < 65535) (v:Int) (hv0:0≤v) (hv1:v≤maxC):Spec Try.prog 30 [.pointer (some ⟨b,0,none⟩),.int .i64 t,.int .u64 v] [cells b 0 [.slice ao n cap],own 1 encU ao cap l] (fun (r:Option Addr × Nat)=>.int .i64 0) (fun r=>True) (fun r=>[cells b 0 [.slice r.1 (stL l t.toNat v).length r.2],own 1 encU r.1 r.2 (stL l t.toNat v)]):=by
  obtain ⟨i,rfl⟩:=Int.eq_ofNat_of_zero_le h0
  exact Vc.set_spec b l ao n cap hn hl i Om v hv0 hv1
end Go.Ab.Dj
set_option linter.unusedVariables false
set_option linter.unusedSimpArgs false
set_option maxRecDepth 100000
namespace Go.Ab.Dj
open Go Go.Proofs Go.Ab Go.Ab.Fe Go.Ab.Vc
theorem th_some {x:VS} (hx:VInv x) {t:Int} (h:(stF x.ck t).1≠0):∃ l,x.th t=some l:=Option.isSome_iff_exists.1 ((hx.th t).2 h)
theorem thF_eq {x:VS} {t:Int} {l:List Int} (h:x.th t=some l):thF x t=l:=by rw [thF,h];rfl
theorem th_rng {x:VS} (hx:VInv x) {t:Int} (h:(stF x.ck t).1≠0):0≤t∧t < 65535:=by
  obtain ⟨h0,h1,-⟩:=stF_nz h
  have h2:=hx.ck.tl
  have h3:=hx.ck.sh.th
  exact ⟨h0,by omega⟩
/-- A round that somebody waits in is kept. -/
theorem rd_some {x:VS} (hx:VInv x) {t o:Int} (h:(stF x.ck t).1=2) (ho:o=(stF x.ck t).2.1):∃ p,x.rd (o,(stF x.ck t).2.2)=some p∧1≤p.2:=by
  obtain ⟨h0,h1,h2⟩:=stF_nz (x:=x.ck) (t:=t) Om
  have h3:0 < wtN x.ck o (stF x.ck t).2.2:=by
    unfold wtN
    rw [List.countP_pos_iff]
    exact ⟨stF x.ck t,List.mem_of_getElem? h2,decide_eq_true (by rw [ho,← h])⟩
  have h4:=hx.wt o (stF x.ck t).2.2
  cases hr:x.rd (o,(stF x.ck t).2.2) with
  | none=>rw [rdF,hr] at h4;simp at h4;omega
  | some p=>rw [rdF,hr] at h4;exact ⟨p,rfl,by simp at h4;omega⟩
def dpF (x:VS) (t o:Int):VS:=⟨x.ck,upd x.th t (some (jn (thF x t) (rdF x (o,(stF x.ck t).2.2)).1)),x.lk,x.vo,upd x.rd (o,(stF x.ck t).2.2) (if (rdF x (o,(stF x.ck t).2.2)).2 - 1≤0 then none else some ((rdF x (o,(stF x.ck t).2.2)).1,(rdF x (o,(stF x.ck t).2.2)).2 - 1))⟩
end Go.Ab.Dj
set_option linter.unusedVariables false
set_option linter.unusedSimpArgs false
set_option maxRecDepth 100000
namespace Go.Ab.Dj
open Go Go.Proofs Go.Ab Go.Ab.Fe Go.Ab.Vc
theorem vn5 {x:VS} {k t o:Int} {l:List Int} (h:x.th t=some l) (hk:k=5):vnF x k t o=⟨nxF x.ck k t o,upd x.th t (some (mgF (x.lk o) l)),x.lk,x.vo,x.rd⟩:=by rw [vnF,if_pos hk,thF_eq h]
theorem vn3 {x:VS} {k t o:Int} {l:List Int} (h:x.th t=some l) (hk:k=3):vnF x k t o=⟨nxF x.ck k t o,upd x.th t (some (mgF (x.vo o) l)),x.lk,x.vo,x.rd⟩:=by rw [vnF,if_neg Om,if_pos hk,thF_eq h]
theorem vn8 {x:VS} {k t o:Int} {l:List Int} (h:x.th t=some l) (hk:k=8):vnF x k t o=⟨nxF x.ck k t o,upd x.th t (some (mgF (x.th o) l)),x.lk,x.vo,x.rd⟩:=by rw [vnF,if_neg Om,if_neg Om,if_pos hk,thF_eq h]
theorem vn10 {x:VS} {k t o:Int} {l:List Int} (h:x.th t=some l) (hk:k=10):vnF x k t o=⟨nxF x.ck k t o,(dpF x t o).th,(dpF x t o).lk,(dpF x t o).vo,(dpF x t o).rd⟩:=by rw [vnF,if_neg Om,if_neg Om,if_neg Om,if_pos hk];rfl
theorem vn6 {x:VS} {k t o:Int} {l:List Int} (h:x.th t=some l) (hk:k=6):vnF x k t o=⟨nxF x.ck k t o,upd x.th t (some (icL l t.toNat)),upd x.lk o (some l),x.vo,x.rd⟩:=by rw [vnF,if_neg Om,if_neg Om,if_neg Om,if_neg Om,if_pos hk,thF_eq h]
theorem vn4 {x:VS} {k t o:Int} {l:List Int} (h:x.th t=some l) (hk:k=4):vnF x k t o=⟨nxF x.ck k t o,upd x.th t (some (icL l t.toNat)),x.lk,upd x.vo o (some (mgF (x.vo o) l)),x.rd⟩:=by rw [vnF,if_neg Om,if_neg Om,if_neg Om,if_neg Om,if_neg Om,if_pos hk,thF_eq h]
theorem vn9 {x:VS} {k t o:Int} {l:List Int} (h:x.th t=some l) (hk:k=9):vnF x k t o=⟨nxF x.ck k t o,upd x.th t (some (icL l t.toNat)),x.lk,x.vo,upd x.rd (o,(opF x.ck o).1) (some (mgF ((x.rd (o,(opF x.ck o).1)).map (·.1)) l,x.ck.pa.getD o.toNat 0))⟩:=by rw [vnF,if_neg Om,if_neg Om,if_neg Om,if_neg Om,if_neg Om,if_neg Om,if_pos hk,thF_eq h]
theorem vn7 {x:VS} {k t o:Int} {l:List Int} (h:x.th t=some l) (hk:k=7):vnF x k t o=⟨nxF x.ck k t o,upd (upd x.th o (some (stL l o.toNat 1))) t (some (icL l t.toNat)),x.lk,x.vo,x.rd⟩:=by rw [vnF,if_neg Om,if_neg Om,if_neg Om,if_neg Om,if_neg Om,if_neg Om,if_neg Om,if_pos hk,thF_eq h]
theorem vn0 {x:VS} {k t o:Int} (k5:k≠5) (k3:k≠3) (k8:k≠8) (k10:k≠10) (k6:k≠6) (k4:k≠4) (k9:k≠9) (k7:k≠7):vnF x k t o=⟨nxF x.ck k t o,x.th,x.lk,x.vo,x.rd⟩:=by simp [vnF, *]
theorem nx_pa (x:CS) (k t o:Int):(nxF x k t o).pa=x.pa:=by
  unfold nxF
  split
  · unfold nextF
    repeat (split;· rfl)
    rfl
  · rfl
theorem map_fst_cv {x:VS} (hx:VInv x) {r:Int × Int} {q:List Int} (h:(x.rd r).map (·.1)=some q):CV q:=by
  cases hr:x.rd r with
  | none=>rw [hr] at h;cases h
  | some p=>rw [hr] at h;cases h;exact hx.rdc _ _ hr
theorem join_ne {x:CS} {t:Int} {k:Int} (hc:canF x k t t) (hk:k=8):False:=by
  rcases hc with ⟨h1,h2,-⟩ | ⟨h1,-,h2⟩
  · omega
  · unfold okK at h2
    rcases h2 with h | h | h | h | h | h | h | h <;> omega
end Go.Ab.Dj
set_option linter.unusedVariables false
set_option linter.unusedSimpArgs false
set_option maxRecDepth 100000
namespace Go.Ab.Dj
open Go Go.Proofs Go.Ab Go.Ab.Fe Go.Ab.Vc
theorem count_set {α:Type} {p:α→Bool} {b:α}:∀ {l:List α} {i:Nat} {a:α},l[i]?=some a→(l.set i b).countP p+(if p a then 1 else 0)=l.countP p+(if p b then 1 else 0)
  | [],i,a,h=>by simp at h
  | c::l,0,a,h=>by
    simp at h;subst h
    simp only [List.set_cons_zero,List.countP_cons]
    omega
  | c::l,i+1,a,h=>by
    simp at h
    have:=count_set (p:=p) (b:=b) h
    simp only [List.set_cons_succ,List.countP_cons]
    omega
theorem upd_some {κ ν:Type} [DecidableEq κ] {T:κ→Option ν} {k q:κ} {v:Option ν} {l:ν} (h:upd T k v q=some l):(q=k∧v=some l)∨(q≠k∧T q=some l):=by
  unfold upd at h
  split at h
  · rename_i e;exact .inl ⟨e,h⟩
  · rename_i e;exact .inr ⟨e,h⟩
theorem mg_cv {m:Option (List Int)} {l:List Int} (hl:CV l) (h:∀ q,m=some q→CV q):CV (mgF m l):=by
  cases m with
  | none=>exact hl
  | some q=>exact jn_cv hl (h q rfl)
theorem wtN_set {c:CS} {th va vo lk:Int} {pa O:List Int} {B:List T2} {n:Int} {i:Nat} {s s':T3} (hs:c.T[i]?=some s) (b r:Int) :
    wtN ⟨th,va,vo,lk,pa,c.T.set i s',O,B,n⟩ b r+(if s=(2,b,r) then 1 else 0)=wtN c b r+(if s'=(2,b,r) then 1 else 0):=by
  have:=count_set (p:=fun s=>decide (s=(2,b,r))) (b:=s') hs
  simpa [wtN] using this
theorem wtN_zero {c:CS} (hc:CInv c) {b r:Int} (h:(opF c b).1 < r):wtN c b r=0:=by
  unfold wtN
  rw [List.countP_eq_zero]
  intro s hs h2
  have h3:=of_decide_eq_true h2
  have h4:=(hc.st s hs).2.2.1 (by rw [h3])
  rw [h3] at h4
  simp at h4;omega
theorem opF_set {c:CS} {th va vo lk:Int} {pa O:List Int} {T:List T3} {n:Int} {o:Int} {v:T2} (h0:0≤o) (h:o.toNat < c.B.length) {b:Int} (hb:0≤b):opF ⟨th,va,vo,lk,pa,T,O,c.B.set o.toNat v,n⟩ b=if b=o then v else opF c b:=by
  unfold opF
  show (c.B.set o.toNat v).getD b.toNat _=_
  rw [getD_set h]
  by_cases e:b=o
  · subst e;rw [if_pos rfl,if_pos rfl]
  · rw [if_neg e,if_neg Om]
theorem icD_cv {x:VS} (hx:VInv x) {k t o:Int} (hvc:vcanF x k t o) (hk:relK k) {l:List Int} (hth:x.th t=some l):CV (icL l t.toNat):=by
  obtain ⟨h0,h1⟩:=th_rng hx (can_th hvc.1)
  have:=hvc.2 hk
  rw [thF_eq hth] at this
  exact icL_cv (hx.thc _ _ hth) Om this
theorem pres {x:CS} (hx:CInv x) {k t o:Int} (hc:canF x k t o) (u:Int):(stF (nxF x k t o) u).1≠0↔(stF x u).1≠0∨(k=7∧u=o):=by
  obtain ⟨n5,n6,n7,n9,n10,n11,nn⟩:=nxF_k hc
  obtain ⟨o5,o7,o9,o10,o11⟩:=can_obj hx hc
  obtain ⟨t0,t1,t2⟩:=stF_nz (can_th hc)
  have hth:=can_th hc
  by_cases k5:k=5
  · rw [n5 k5];show (stF x u).1≠0↔_;omega
  by_cases k6:k=6
  · rw [n6 k6];show (stF x u).1≠0↔_;omega
  by_cases k7:k=7
  · obtain ⟨p0,p1,p2⟩:=o7 k7
    rw [n7 k7,stF_set p0 p1 rfl]
    split
    · rename_i e;simp [k7,e]
    · rename_i e;simp [e]
  by_cases k9:k=9
  · rw [n9 k9,stF_set t0 t1 rfl]
    split
    · rename_i e;subst e;simp [hth]
    · rename_i e;simp [k7]
  by_cases k10:k=10
  · rw [n10 k10,stF_set t0 t1 rfl]
    split
    · rename_i e;subst e;simp [hth]
    · rename_i e;simp [k7]
  by_cases k11:k=11
  · rw [n11 k11,stF_set t0 t1 rfl]
    split
    · rename_i e;subst e;simp [hth]
    · rename_i e;simp [k7]
  rw [nn k5 k6 k7 k9 k10 k11];show (stF x u).1≠0↔_;omega
theorem isS_upd {T:Int→Option (List Int)} {t u:Int} {l:List Int}:(upd T t (some l) u).isSome=true↔u=t∨(T u).isSome=true:=by
  unfold upd
  split
  · rename_i e;simp [e]
  · rename_i e;simp [e]
/-- The threads' counts behind an event. -/
theorem wt_next {x:CS} (hx:CInv x) {k t o:Int} (hc:canF x k t o) (b r:Int) :
    (k=9→wtN (nxF x k t o) b r=wtN x b r+(if b=o∧r=(opF x o).1 then 1 else 0)) ∧
    (k=10→wtN (nxF x k t o) b r+(if b=o∧r=(stF x t).2.2 then 1 else 0)=wtN x b r) ∧
    (k≠9→k≠10→wtN (nxF x k t o) b r=wtN x b r):=by
  obtain ⟨n5,n6,n7,n9,n10,n11,nn⟩:=nxF_k hc
  obtain ⟨o5,o7,o9,o10,o11⟩:=can_obj hx hc
  obtain ⟨t0,t1,t2⟩:=stF_nz (can_th hc)
  have hth:=can_th hc
  refine ⟨fun k9=>?_,fun k10=>?_,fun k9 k10=>?_⟩
  · rw [n9 k9]
    have h:=wtN_set (th:=x.th) (va:=x.va) (vo:=x.vo) (lk:=x.lk) (pa:=x.pa) (O:=x.O) (B:=x.B.set o.toNat (arrF (opF x o) (x.pa.getD o.toNat 0))) (n:=x.n+1) (s':=(2,o,(opF x o).1)) t2 b r
    rw [if_neg (fun e=>by have:=(o9 k9).2.2.2;rw [e] at this;simp at this)] at h
    rw [Nat.add_zero] at h
    rw [h]
    by_cases e:b=o∧r=(opF x o).1
    · rw [if_pos e,if_pos (by rw [e.1,e.2])]
    · rw [if_neg e,if_neg (fun h=>e (by simp at h;exact ⟨h.1.symm,h.2.symm⟩))]
  · rw [n10 k10]
    have h:=wtN_set (th:=x.th) (va:=x.va) (vo:=x.vo) (lk:=x.lk) (pa:=x.pa) (O:=x.O) (B:=x.B) (n:=x.n+1) (s':=(1,0,0)) t2 b r
    rw [if_neg (c:=((1:Int),(0:Int),(0:Int))=(2,b,r)) (by simp),Nat.add_zero] at h
    rw [← h]
    obtain ⟨q1,q2,q3⟩:=o10 k10
    by_cases e:b=o∧r=(stF x t).2.2
    · rw [if_pos e,if_pos (by rw [e.1,e.2,q3,← q1])]
    · rw [if_neg e,if_neg (fun h=>e (by rw [q3,h];exact ⟨rfl,rfl⟩))]
  · by_cases k5:k=5
    · rw [n5 k5];rfl
    by_cases k6:k=6
    · rw [n6 k6];rfl
    by_cases k7:k=7
    · obtain ⟨p0,p1,p2⟩:=o7 k7
      rw [n7 k7]
      have h:=wtN_set (th:=x.th) (va:=x.va) (vo:=x.vo) (lk:=x.lk) (pa:=x.pa) (O:=x.O) (B:=x.B) (n:=x.n+1) (s':=(1,0,0)) (stF_at (x:=x) p0 Om) b r
      rw [if_neg (c:=((1:Int),(0:Int),(0:Int))=(2,b,r)) (by simp),if_neg (fun e=>by rw [e] at p2;simp at p2)] at h
      omega
    by_cases k11:k=11
    · rw [n11 k11]
      have h:=wtN_set (th:=x.th) (va:=x.va) (vo:=x.vo) (lk:=x.lk) (pa:=x.pa) (O:=x.O) (B:=x.B) (n:=x.n+1) (s':=(3,0,0)) t2 b r
      rw [if_neg (c:=((3:Int),(0:Int),(0:Int))=(2,b,r)) (by simp),if_neg (fun e=>by have:=o11 k11;rw [e] at this;simp at this)] at h
      omega
    rw [nn k5 k6 k7 k9 k10 k11];rfl
theorem opF_next {x:CS} (hx:CInv x) {k t o:Int} (hc:canF x k t o) {b:Int} (hb:0≤b):opF (nxF x k t o) b=if k=9∧b=o then arrF (opF x o) (x.pa.getD o.toNat 0) else opF x b:=by
  obtain ⟨n5,n6,n7,n9,n10,n11,nn⟩:=nxF_k hc
  obtain ⟨o5,o7,o9,o10,o11⟩:=can_obj hx hc
  by_cases k9:k=9
  · obtain ⟨p0,p1,p2,p3⟩:=o9 k9
    rw [n9 k9,opF_set p0 p1 hb]
    by_cases e:b=o
    · rw [if_pos e,if_pos ⟨k9,e⟩]
    · rw [if_neg e,if_neg (fun h=>e h.2)]
  rw [if_neg (fun h=>k9 h.1)]
  by_cases k5:k=5
  · rw [n5 k5];rfl
  by_cases k6:k=6
  · rw [n6 k6];rfl
  by_cases k7:k=7
  · rw [n7 k7];rfl
  by_cases k10:k=10
  · rw [n10 k10];rfl
  by_cases k11:k=11
  · rw [n11 k11];rfl
  rw [nn k5 k6 k7 k9 k10 k11];rfl
theorem nx_B {x:CS} (hx:CInv x) {k t o:Int} (hc:canF x k t o):(nxF x k t o).B.length=x.B.length:=by
  rw [(next_inv hx k t o).bl,hx.bl,nx_pa]
theorem vn_ck {x:VS} {k t o:Int}:(vnF x k t o).ck=nxF x.ck k t o:=by
  unfold vnF
  repeat (split;· rfl)
  rfl
/-- The rounds behind an event. -/
theorem vn_rd {x:VS} {k t o:Int}:(vnF x k t o).rd=if k=10 then upd x.rd (rdK x t o) (if (rdF x (rdK x t o)).2 - 1≤0 then none else some ((rdF x (rdK x t o)).1,(rdF x (rdK x t o)).2 - 1))
    else if k=9 then upd x.rd (o,(opF x.ck o).1) (some (mgF ((x.rd (o,(opF x.ck o).1)).map (·.1)) (thF x t),x.ck.pa.getD o.toNat 0)) else x.rd:=by
  unfold vnF
  by_cases k5:k=5
  · simp [k5]
  by_cases k3:k=3
  · simp [k3]
  by_cases k8:k=8
  · simp [k8]
  by_cases k10:k=10
  · simp [k10]
  by_cases k6:k=6
  · simp [k6]
  by_cases k4:k=4
  · simp [k4]
  by_cases k9:k=9
  · simp [k9]
  by_cases k7:k=7
  · simp [k7]
  simp [*]
theorem next_vinv {x:VS} (hx:VInv x) {k t o:Int} (hvc:vcanF x k t o):VInv (vnF x k t o):=by
  have hc:=hvc.1
  obtain ⟨l,hth⟩:=th_some hx (can_th hc)
  have hlc:=hx.thc _ _ hth
  obtain ⟨o5,o7,o9,o10,o11⟩:=can_obj hx.ck hc
  have hts:(x.th t).isSome=true:=by rw [hth];rfl
  have hic:relK k→CV (icL l t.toNat):=fun h=>icD_cv hx hvc h hth
  have hpp:k=9→1≤x.ck.pa.getD o.toNat 0∧x.ck.pa.getD o.toNat 0≤65535:=fun k9=>by
    obtain ⟨pp,hp⟩:=cP (o9 k9).2.2.1
    rw [getD_some hp];exact hx.ck.sh.pa pp (List.mem_of_getElem? hp)
  refine ⟨by rw [vn_ck];exact next_inv hx.ck k t o,fun u=>?_,?_,?_,?_,fun r p h=>?_,fun r p h=>?_,fun b r=>?_,fun b hb0 hb1=>?_⟩
  · rw [vn_ck,pres hx.ck hc u,← hx.th u]
    by_cases k5:k=5
    · rw [vn5 hth k5,isS_upd];constructor
      · rintro (rfl | h) <;> simp_all
      · rintro (h | h)
        · exact .inr h
        · omega
    by_cases k3:k=3
    · rw [vn3 hth k3,isS_upd];constructor
      · rintro (rfl | h) <;> simp_all
      · rintro (h | h)
        · exact .inr h
        · omega
    by_cases k8:k=8
    · rw [vn8 hth k8,isS_upd];constructor
      · rintro (rfl | h) <;> simp_all
      · rintro (h | h)
        · exact .inr h
        · omega
    by_cases k10:k=10
    · rw [vn10 hth k10,dpF,isS_upd];constructor
      · rintro (rfl | h) <;> simp_all
      · rintro (h | h)
        · exact .inr h
        · omega
    by_cases k6:k=6
    · rw [vn6 hth k6,isS_upd];constructor
      · rintro (rfl | h) <;> simp_all
      · rintro (h | h)
        · exact .inr h
        · omega
    by_cases k4:k=4
    · rw [vn4 hth k4,isS_upd];constructor
      · rintro (rfl | h) <;> simp_all
      · rintro (h | h)
        · exact .inr h
        · omega
    by_cases k9:k=9
    · rw [vn9 hth k9,isS_upd];constructor
      · rintro (rfl | h) <;> simp_all
      · rintro (h | h)
        · exact .inr h
        · omega
    by_cases k7:k=7
    · rw [vn7 hth k7,isS_upd,isS_upd];constructor
      · rintro (rfl | rfl | h) <;> simp_all
      · rintro (h | h)
        · exact .inr (.inr h)
        · exact .inr (.inl h.2)
    rw [vn0 k5 k3 k8 k10 k6 k4 k9 k7];simp [k7]
  · intro u q h
    have key:∀ {v:List Int},CV v→upd x.th t (some v) u=some q→CV q:=fun hv h=>by
      rcases upd_some h with ⟨-,h⟩ | ⟨-,h⟩
      · cases h;exact hv
      · exact hx.thc _ _ h
    by_cases k5:k=5
    · rw [vn5 hth k5] at h;exact key (mg_cv hlc (hx.lkc _)) h
    by_cases k3:k=3
    · rw [vn3 hth k3] at h;exact key (mg_cv hlc (hx.voc _)) h
    by_cases k8:k=8
    · rw [vn8 hth k8] at h;exact key (mg_cv hlc (hx.thc _)) h
    by_cases k10:k=10
    · rw [vn10 hth k10,dpF,thF_eq hth] at h
      obtain ⟨p,hp,-⟩:=rd_some hx (o10 k10).1 (o10 k10).2.2
      refine key (jn_cv hlc ?_) h
      rw [rdF,hp];exact hx.rdc _ _ hp
    by_cases k6:k=6
    · rw [vn6 hth k6] at h;exact key (hic (by unfold relK;omega)) h
    by_cases k4:k=4
    · rw [vn4 hth k4] at h;exact key (hic (by unfold relK;omega)) h
    by_cases k9:k=9
    · rw [vn9 hth k9] at h;exact key (hic (by unfold relK;omega)) h
    by_cases k7:k=7
    · rw [vn7 hth k7] at h
      obtain ⟨p0,p1,p2⟩:=o7 k7
      have h3:=hx.ck.tl
      have h4:=hx.ck.sh.th
      rcases upd_some h with ⟨-,h⟩ | ⟨-,h⟩
      · cases h;exact hic (by unfold relK;omega)
      · rcases upd_some h with ⟨-,h⟩ | ⟨-,h⟩
        · cases h;exact stL_cv hlc Om (by decide) (by decide)
        · exact hx.thc _ _ h
    rw [vn0 k5 k3 k8 k10 k6 k4 k9 k7] at h;exact hx.thc _ _ h
  · intro u q h
    by_cases k6:k=6
    · rw [vn6 hth k6] at h
      rcases upd_some h with ⟨-,h⟩ | ⟨-,h⟩
      · cases h;exact hlc
      · exact hx.lkc _ _ h
    have e:(vnF x k t o).lk=x.lk:=by
      unfold vnF
      rw [if_neg k6]
      repeat (split;· rfl)
      rfl
    rw [e] at h;exact hx.lkc _ _ h
  · intro u q h
    by_cases k4:k=4
    · rw [vn4 hth k4] at h
      rcases upd_some h with ⟨-,h⟩ | ⟨-,h⟩
      · cases h;exact mg_cv hlc (hx.voc _)
      · exact hx.voc _ _ h
    have e:(vnF x k t o).vo=x.vo:=by
      unfold vnF
      rw [if_neg k4]
      repeat (split;· rfl)
      rfl
    rw [e] at h;exact hx.voc _ _ h
  · rw [vn_rd] at h
    split at h
    · rename_i k10
      rcases upd_some h with ⟨-,h⟩ | ⟨-,h⟩
      · obtain ⟨p2,hp,-⟩:=rd_some hx (o10 k10).1 (o10 k10).2.2
        split at h
        · cases h
        · cases h
          show CV (rdF x (rdK x t o)).1
          rw [rdK,rdF,hp];exact hx.rdc _ _ hp
      · exact hx.rdc _ _ h
    · split at h
      · rcases upd_some h with ⟨-,h⟩ | ⟨-,h⟩
        · cases h
          show CV (mgF _ _)
          rw [thF_eq hth]
          exact mg_cv hlc fun q hq=>map_fst_cv hx hq
        · exact hx.rdc _ _ h
      · exact hx.rdc _ _ h
  · rw [vn_rd] at h
    split at h
    · rename_i k10
      rcases upd_some h with ⟨-,h⟩ | ⟨-,h⟩
      · obtain ⟨p2,hp,-⟩:=rd_some hx (o10 k10).1 (o10 k10).2.2
        have h5:=hx.rds _ _ hp
        split at h
        · cases h
        · rename_i h6
          cases h
          have h7:rdF x (rdK x t o)=p2:=by rw [rdK,rdF,hp];rfl
          rw [h7] at h6 ⊢
          exact ⟨by show 0≤p2.2 - 1;omega,by show p2.2 - 1≤65535;omega⟩
      · exact hx.rds _ _ h
    · split at h
      · rename_i k9
        rcases upd_some h with ⟨-,h⟩ | ⟨-,h⟩
        · cases h
          have:=hpp k9
          exact ⟨by show 0≤x.ck.pa.getD _ _;omega,this.2⟩
        · exact hx.rds _ _ h
      · exact hx.rds _ _ h
  · rw [vn_ck]
    obtain ⟨w9,w10,w0⟩:=wt_next hx.ck hc b r
    have h1:=hx.wt b r
    rw [rdF,vn_rd]
    by_cases k10:k=10
    · rw [if_pos k10]
      have hw:=w10 k10
      by_cases e:b=o∧r=(stF x.ck t).2.2
      · rw [if_pos e] at hw
        have e2:((b,r):Int × Int)=rdK x t o:=by rw [rdK,e.1,e.2]
        rw [e2] at h1 ⊢
        rw [sQ]
        split
        · simp;omega
        · simp;omega
      · rw [if_neg e] at hw
        have e2:((b,r):Int × Int)≠rdK x t o:=fun h=>e (by rw [rdK] at h;simp at h;exact h)
        rw [sB e2]
        show _≤(rdF x (b,r)).2
        omega
    · rw [if_neg k10]
      by_cases k9:k=9
      · rw [if_pos k9]
        have hw:=w9 k9
        by_cases e:b=o∧r=(opF x.ck o).1
        · rw [if_pos e] at hw
          have e2:((b,r):Int × Int)=(o,(opF x.ck o).1):=by rw [e.1,e.2]
          rw [e2,sQ]
          obtain ⟨p0,p1,p2,p3⟩:=o9 k9
          obtain ⟨pp,hp⟩:=cP p2
          have h2:=hx.wo o p0 Om
          have h3:=hx.ck.op _ _ _ (opF_at (x:=x.ck) p0 Om) hp
          rw [getD_some hp]
          rw [e.1,e.2] at hw
          rw [e.1,e.2]
          show _≤pp
          omega
        · rw [if_neg e] at hw
          have e2:((b,r):Int × Int)≠(o,(opF x.ck o).1):=fun h=>e (by simp at h;exact h)
          rw [sB e2]
          show _≤(rdF x (b,r)).2
          omega
      · rw [if_neg k9,w0 k9 k10];exact h1
  · rw [vn_ck] at hb1 ⊢
    rw [nx_B hx.ck hc] at hb1
    have h1:=hx.wo b hb0 hb1
    rw [opF_next hx.ck hc hb0]
    by_cases e:k=9∧b=o
    · rw [if_pos e]
      obtain ⟨k9,rfl⟩:=e
      obtain ⟨p0,p1,p2,p3⟩:=o9 k9
      obtain ⟨pp,hp⟩:=cP p2
      rw [getD_some hp]
      unfold arrF
      split
      · have hz:=wtN_zero hx.ck (b:=b) (r:=(opF x.ck b).1+1) Om
        have hw:=(wt_next hx.ck hc b ((opF x.ck b).1+1)).1 k9
        rw [if_neg Om] at hw
        simp;omega
      · have hw:=(wt_next hx.ck hc b (opF x.ck b).1).1 k9
        rw [if_pos ⟨rfl,rfl⟩] at hw
        simp;omega
    · rw [if_neg e]
      obtain ⟨w9,w10,w0⟩:=wt_next hx.ck hc b (opF x.ck b).1
      by_cases k9:k=9
      · have hw:=w9 k9
        rw [if_neg (fun h=>e ⟨k9,h.1⟩)] at hw
        omega
      · by_cases k10:k=10
        · have hw:=w10 k10
          omega
        · rw [w0 k9 k10];exact h1
end Go.Ab.Dj
set_option linter.unusedVariables false
set_option linter.unusedSimpArgs false
namespace Go.Ab
open Go
theorem run_next_gen {P:Program} (w:World) (ty:TypeId) (r bm since c0:Nat) (seen:Array Nat) (es:Array MapEntry) (clock:Nat) (hr:w.heap[r]?=some (.mapIter (some bm) since seen c0)) (hb:w.heap[bm]?=some (.map es clock)) (hold:∀ x∈es.toList,x.born < since) (hsc:since≤c0) :
    ((leftOf es seen).size=0∧(Instr.next (.pointer (some ⟨r,0,none⟩)) false ty).run P w=.ok (.tuple #[.bool false]) w) ∨
    ∃ e∈(leftOf es seen).toList,∃ w1:World,(w1.heap=w.heap∧w1.os=w.os∧w1.tape=w.tape∧w1.output=w.output)∧(Instr.next (.pointer (some ⟨r,0,none⟩)) false ty).run P w=.ok (.tuple #[.bool true,e.key,e.val]) { w1 with heap:=w1.heap.setIfInBounds r (.mapIter (some bm) since (seen.push e.born) clock) }:=by
  simp only [Instr.next,getObj,Sem.run_bind,Sem.run,hr,hb,Result.andThen,next_test_false seen es since c0 hold hsc,Bool.false_eq_true,if_false]
  unfold leftOf
  have hmem:∀ x∈(Array.filter (fun e=>!seen.contains e.born) es).toList,x.born < since:=fun x hx=>hold x (by simp at hx ⊢;exact hx.1)
  generalize Array.filter (fun e=>!seen.contains e.born) es=L at hmem ⊢
  have e1:L.filter (fun x=>decide (x.born < since))=L:=Array.filter_eq_self.2 (fun x hx=>by simpa using hmem x (by simpa using hx))
  have e2:L.filter (fun x=>decide (x.born ≥ since))=#[]:=by
    rw [Array.filter_eq_empty_iff]
    intro x hx
    have:=hmem x (by simpa using hx)
    simp
    omega
  simp only [e1,e2,Array.append_empty]
  by_cases h0:L.size=0
  · left
    have:L=#[]:=Array.eq_empty_of_size_eq_zero h0
    subst this
    refine ⟨rfl,?_⟩
    simp [choose,Sem.run,Question.forced]
  · right
    have hne:L.isEmpty=false:=by simp [Array.isEmpty,h0]
    simp only [hne,Bool.false_eq_true,if_false,Array.empty_append,Array.size_map]
    have hch:∃ (j:Nat) (w1:World),j < L.size∧(w1.heap=w.heap∧w1.os=w.os∧w1.tape=w.tape∧w1.output=w.output)∧(choose (Question.mapNext L.size)).run P w=.ok j w1:=by
      by_cases hf:L.size≤1
      · exact ⟨0,w,by omega,⟨rfl,rfl,rfl,rfl⟩,by simp [choose,Sem.run,Question.forced,hf]⟩
      · exact ⟨_,w.drew,Nat.mod_lt _ Om,⟨rfl,rfl,rfl,rfl⟩,by
          simp only [choose,Sem.run,Question.forced,decide_eq_true_eq,hf,if_false,Question.cut]
          rfl⟩
    obtain ⟨j,w1,hj,hal,hrun⟩:=hch
    refine ⟨L[j],by simp,w1,hal,?_⟩
    have hr1:w1.heap[r]?=some (.mapIter (some bm) since seen c0):=by rw [hal.1];exact hr
    have hset:∀ o',(setObj r o').run P w1=.ok () { w1 with heap:=w1.heap.setIfInBounds r o' }:=fun o'=>by
      simp [setObj,Sem.run,hr1]
    simp only [hrun,Array.getElem?_map,Array.getElem?_eq_getElem hj,Option.map_some,Sem.run_bind,hset,Result.andThen]
    rfl
theorem run_entry_gen {P:Program} (w:World) (r bm since:Nat) (seen:Array Nat) (es:Array MapEntry) (clock:Nat) (e:MapEntry) (hr:w.heap[r]?=some (.mapIter (some bm) since (seen.push e.born) clock)) (hb:w.heap[bm]?=some (.map es clock)) (he:e∈es.toList) (hn:(es.toList.map (·.born)).Nodup) :
    (Instr.entry (.pointer (some ⟨r,0,none⟩))).run P w=.ok (.tuple #[e.key,e.val]) w:=by
  have hf:es.find? (·.born == e.born)=some e:=by rw [← Array.find?_toList];exact find_born e es.toList hn he
  simp only [Instr.entry,getObj,Sem.run_bind,Sem.run,hr,hb,Result.andThen,Array.back?_push,bne_self_eq_false,Bool.false_eq_true,if_false,hf]
  rfl
theorem iter_no {a b c d}:∀ x y z,Obj.mapIter a b c d≠.cells x y z:=fun _ _ _ h=>by cases h
/-- A loop over the map m: F what it holds (N entries), vis the keys gone over. -/
structure RngL {κ ν:Type} (F:κ→Option ν) (M:List (κ × ν × Nat)) (clock:Nat) (seen:List Nat) (vis:List κ) (N:Nat):Prop where
  map:MapL F M clock
  len:M.length=N
  vs:∃ V:List (κ × ν × Nat),(∀ p∈V,p∈M)∧V.map (·.1)=vis∧V.map (·.2.2)=seen
def rng {κ ν:Type} (ek:κ→Value) (ev:ν→Value) (r m:Nat) (F:κ→Option ν) (vis:List κ) (N:Nat):HProp:=fun h =>
  ∃ (M:List (κ × ν × Nat)) (clock since:Nat) (seen:List Nat),RngL F M clock seen vis N∧(∀ p∈M,p.2.2 < since)∧since≤clock∧Sat [objP r (.mapIter (some m) since seen.toArray clock),objP m (.map (M.map (mke ek ev)).toArray clock)] h
section
variable {κ ν:Type} {F:κ→Option ν} {M:List (κ × ν × Nat)} {clock N:Nat} {seen:List Nat} {vis:List κ}
theorem RngL.facts (h:RngL F M clock seen vis N):(∀ k∈vis,∃ v,F k=some v):=fun k hk=>by
  obtain ⟨V,h1,h2,-⟩:=h.vs
  rw [← h2] at hk
  obtain ⟨p,hp,rfl⟩:=List.mem_map.1 hk
  exact ⟨p.2.1,(h.map.tells _ _).2 ⟨p.2.2,h1 p hp⟩⟩
theorem born_inj' (h:MapL F M clock) {p q:κ × ν × Nat} (hp:p∈M) (hq:q∈M) (e:p.2.2=q.2.2):p=q:=by
  obtain ⟨i,hi⟩:=List.getElem?_of_mem hp
  obtain ⟨j,hj⟩:=List.getElem?_of_mem hq
  have:i=j:=nodup_idx h.born (x:=p.2.2) (by rw [List.getElem?_map,hi];rfl) (by rw [List.getElem?_map,hj,e];rfl)
  subst this
  rw [hi] at hj;cases hj;rfl
theorem key_inj' (h:MapL F M clock) {p q:κ × ν × Nat} (hp:p∈M) (hq:q∈M) (e:p.1=q.1):p=q:=by
  obtain ⟨i,hi⟩:=List.getElem?_of_mem hp
  obtain ⟨j,hj⟩:=List.getElem?_of_mem hq
  have:i=j:=nodup_idx h.keys (x:=p.1) (by rw [List.getElem?_map,hi];rfl) (by rw [List.getElem?_map,hj,e];rfl)
  subst this
  rw [hi] at hj;cases hj;rfl
theorem nodup_sub_len {α:Type} [DecidableEq α]:∀ {a b:List α},a.Nodup→(∀ x∈a,x∈b)→a.length≤b.length
  | [],_,_,_=>Nat.zero_le _
  | x::a,b,hn,hs=>by
    rw [List.nodup_cons] at hn
    have h1:x∈b:=hs x List.mem_cons_self
    have h2:=nodup_sub_len (a:=a) (b:=b.erase x) hn.2 fun y hy=>(List.mem_erase_of_ne (fun e:y=x=>hn.1 (by rw [← e];exact hy))).2 (hs y (List.mem_cons_of_mem _ hy))
    have h3:=List.length_erase_of_mem h1
    have h4:=List.length_pos_of_mem h1
    simp only [List.length_cons];omega
end
section
variable {P:Program} {r:Option Nat} {w0:World} {ds:List Deferred} {n:Nat} {e:Env} {Γ:List HProp} {K:Act→World→Prop} {l:List Oper} {i:Nat} {t:RT} {fl:List Nat}
variable {d:Nat} {ty:TypeId} {pos:String} {af:Array Edge} {g:Option (Nat × Bool)}
variable {κ ν:Type} {ek:κ→Value} {ev1:ν→Value} {F:κ→Option ν}
theorem l_range {T kt et:TypeId} {x:Operand} {m:Nat} {Γ':List HProp} (ho:nthO l i=some ⟨some d,.range T x,ty,pos,af,g⟩) (hg:gd l e g=some true) (hn:Nat.blt d n=true) (hx:ev e x=some (.map (some m))) (hT:P.underlying T=some (.map kt et)) (tk:Take Γ (mapO ek ev1 m F) Γ')
    (k1:∀ r1 N,Le (St w0 ds n ((d,.pointer (some ⟨r1,0,none⟩))::e) (rng ek ev1 r1 m F [] N::Γ')) (AG P r l.toArray fl (wpRT P r l.toArray K t))):Le (St w0 ds n e Γ) (wpRT P r l.toArray K (.l i fl t)) :=
  l_gen ho hg (fun _ h=>by cases h) (fun a w s=>by
    obtain ⟨M,hM⟩:=(tk _ s.heap).ex
    obtain ⟨clock,hM⟩:=hM.ex
    obtain ⟨h1,h2⟩:=hM.pure_and
    have hb:=h2.obj.1
    have hr':(execOp a.eval ⟨some d,.range T x,ty,pos,af,g⟩).run P w=.ok (.value (.pointer (some ⟨w.heap.size,0,none⟩))) (w.alloc (.mapIter (some m) clock #[] clock)):=by
      simp [execOp,s.ev hx,run_range_map w T kt et m _ clock hT hb]
    rw [hr']
    have s1:=h2.newObj (.mapIter (some m) clock #[] clock) iter_no
    obtain ⟨h3,l3,a3,s3⟩:=s1
    have s4:Sat (rng ek ev1 w.heap.size m F [] M.length::Γ') (lh (w.alloc (.mapIter (some m) clock #[] clock))):=by
      obtain ⟨h5,l5,a5,s5⟩:=Bun.fold (Γ:=[objP w.heap.size (.mapIter (some m) clock #[] clock),objP m (.map (M.map (mke ek ev1)).toArray clock)]) ⟨h3,l3,a3,s3⟩
      exact ⟨h5,l5,⟨M,clock,clock,[],⟨h1,rfl,[],by simp,rfl,rfl⟩,h1.lt,Nat.le_refl _,a5⟩,s5⟩
    exact k1 _ _ _ _ ((s.world s4 ⟨rfl,rfl,rfl,by simp⟩).put hn))
theorem l_next [DecidableEq κ] {x:Operand} {r1 m N:Nat} {vis:List κ} {Γ':List HProp} (ho:nthO l i=some ⟨some d,.next x false,ty,pos,af,g⟩) (hg:gd l e g=some true) (hn:Nat.blt d n=true) (hx:ev e x=some (.pointer (some ⟨r1,0,none⟩))) (hnd:vis.Nodup) (tk:Take Γ (rng ek ev1 r1 m F vis N) Γ')
    (k0:(∀ k v,F k=some v→k∈vis)→(∀ k∈vis,∃ v,F k=some v)→Le (St w0 ds n ((d,.tuple #[.bool false])::e) (mapO ek ev1 m F::Γ')) (AG P r l.toArray fl (wpRT P r l.toArray K t)))
    (k1:∀ k v,F k=some v→k ∉ vis→vis.length < N→Le (St w0 ds n ((d,.tuple #[.bool true,ek k,ev1 v])::e) (rng ek ev1 r1 m F (vis++[k]) N::Γ')) (AG P r l.toArray fl (wpRT P r l.toArray K t))):Le (St w0 ds n e Γ) (wpRT P r l.toArray K (.l i fl t)) :=
  l_gen ho hg (fun _ h=>by cases h) (fun a w s=>by
    have s0:=tk _ s.heap
    obtain ⟨h1,l1,⟨M,clock,since,seen,hR,hold,hsc,a1⟩,s1⟩:=s0
    have s2:Sat (objP r1 (.mapIter (some m) since seen.toArray clock)::objP m (.map (M.map (mke ek ev1)).toArray clock)::Γ') (lh w):=Bun.unfold ⟨h1,l1,a1,s1⟩
    have hbr:=s2.obj.1
    have hbm:=(Sat.swap s2).obj.1
    obtain ⟨V,v1,v2,v3⟩:=hR.vs
    rcases run_next_gen (P:=P) w ty r1 m since clock seen.toArray _ clock hbr hbm (fun y hy=>by
        simp only [List.mem_map] at hy
        obtain ⟨p,hp,rfl⟩:=hy
        exact hold p hp) hsc with ⟨h3,h4⟩ | ⟨en,h3,w1,⟨q1,q2,q3,q4⟩,h4⟩
    · have hr':(execOp a.eval ⟨some d,.next x false,ty,pos,af,g⟩).run P w=.ok (.value (.tuple #[.bool false])) w:=by simp [execOp,s.ev hx,h4]
      rw [hr']
      have hall:∀ k v,F k=some v→k∈vis:=fun k v hkv=>by
        obtain ⟨b,hb⟩:=(hR.map.tells k v).1 hkv
        have hin:b∈seen:=by
          by_cases hs:b∈seen
          · exact hs
          · exfalso
            have hm:mke ek ev1 (k,v,b)∈(leftOf (M.map (mke ek ev1)).toArray seen.toArray).toList:=by
              unfold leftOf
              simp only [Array.toList_filter,List.mem_filter,List.mem_map]
              exact ⟨⟨_,hb,rfl⟩,by simp [mke,hs]⟩
            have:0 < (leftOf (M.map (mke ek ev1)).toArray seen.toArray).toList.length:=List.length_pos_of_mem hm
            simp at this;omega
        rw [← v3] at hin
        obtain ⟨p,hp,hpb⟩:=List.mem_map.1 hin
        have:=born_inj' hR.map (v1 p hp) hb hpb
        rw [← v2];exact List.mem_map.2 ⟨p,hp,by rw [this]⟩
      have sm:Sat (mapO ek ev1 m F::Γ') (lh w):=by
        obtain ⟨h6,l6,a6,s6⟩:=Sat.swap s2
        obtain ⟨h7,l7,a7,s7⟩:=s6
        exact ⟨h6,l6,⟨M,clock,hR.map,a6⟩,s7.mono (Hmin_le _ _)⟩
      exact k0 hall hR.facts _ _ ((s.world sm (Amb.refl w)).put hn)
    · obtain ⟨p,hp,rfl⟩:∃ p∈M,mke ek ev1 p=en:=by
        have:=(mem_left h3).1
        simpa using this
      have hns:p.2.2 ∉ seen:=by
        have:=(mem_left h3).2
        simpa [mke] using this
      have hr':(execOp a.eval ⟨some d,.next x false,ty,pos,af,g⟩).run P w=.ok (.value (.tuple #[.bool true,ek p.1,ev1 p.2.1])) { w1 with heap:=w1.heap.setIfInBounds r1 (.mapIter (some m) since (seen.toArray.push p.2.2) clock) }:=by
        simp [execOp,s.ev hx,h4,mke]
      rw [hr']
      have hkn:p.1 ∉ vis:=fun hk=>by
        rw [← v2] at hk
        obtain ⟨q,hq,hqk⟩:=List.mem_map.1 hk
        have:=key_inj' hR.map (v1 q hq) hp hqk
        subst this
        exact hns (v3 ▸ List.mem_map.2 ⟨q,hq,rfl⟩)
      have hlt:vis.length < N:=by
        have h8:=nodup_sub_len (a:=vis++[p.1]) (b:=M.map (·.1)) (List.nodup_append.2 ⟨hnd,by simp,fun a ha b hb=>by simp at hb;subst hb;intro e;exact hkn (e ▸ ha)⟩) (fun k hk=>by
          rcases List.mem_append.1 hk with hk | hk
          · rw [← v2] at hk
            obtain ⟨q,hq,rfl⟩:=List.mem_map.1 hk
            exact List.mem_map.2 ⟨q,v1 q hq,rfl⟩
          · simp at hk;subst hk;exact List.mem_map.2 ⟨p,hp,rfl⟩)
        rw [List.length_append,List.length_map,hR.len] at h8
        simp at h8;omega
      have s3:=s2.setObj (.mapIter (some m) since (seen.toArray.push p.2.2) clock) iter_no
      have hw:lh { w1 with heap:=w1.heap.setIfInBounds r1 (.mapIter (some m) since (seen.toArray.push p.2.2) clock) }=lh { w with heap:=w.heap.setIfInBounds r1 (.mapIter (some m) since (seen.toArray.push p.2.2) clock) }:=by
        unfold lh;simp only [q1]
      have s4:Sat (rng ek ev1 r1 m F (vis++[p.1]) N::Γ') (lh { w1 with heap:=w1.heap.setIfInBounds r1 (.mapIter (some m) since (seen.toArray.push p.2.2) clock) }):=by
        rw [hw]
        obtain ⟨h5,l5,a5,s5⟩:=Bun.fold (Γ:=[objP r1 (.mapIter (some m) since (seen.toArray.push p.2.2) clock),objP m (.map (M.map (mke ek ev1)).toArray clock)]) s3
        refine ⟨h5,l5,⟨M,clock,since,seen++[p.2.2],⟨hR.map,hR.len,V++[p],?_,?_,?_⟩,hold,hsc,?_⟩,s5⟩
        · intro q hq
          rcases List.mem_append.1 hq with hq | hq
          · exact v1 q hq
          · simp at hq;subst hq;exact hp
        · simp [v2]
        · simp [v3]
        · have e9:(seen++[p.2.2]).toArray=seen.toArray.push p.2.2:=by simp
          rw [e9];exact a5
      exact k1 p.1 p.2.1 ((hR.map.tells _ _).2 ⟨p.2.2,hp⟩) hkn hlt _ _ ((s.world s4 ⟨q2,q3,q4,by simp [q1]⟩).put hn))
theorem q_entry {x:Operand} {r1 m N:Nat} {vis:List κ} {k:κ} {v:ν} {Γ':List HProp} (ho:nthO l i=some ⟨some d,.entry x,ty,pos,af,g⟩) (hg:gd l e g=some true) (hn:Nat.blt d n=true) (hx:ev e x=some (.pointer (some ⟨r1,0,none⟩))) (hF:F k=some v) (tk:Take Γ (rng ek ev1 r1 m F (vis++[k]) N) Γ')
    (k1:Le (St w0 ds n ((d,.tuple #[ek k,ev1 v])::e) Γ) (wpRT P r l.toArray K t)):Le (St w0 ds n e Γ) (wpRT P r l.toArray K (.q i t)) :=
  q_read ho hg rfl hn rfl (fun _ h=>by cases h) (fun a w s=>by
    obtain ⟨h1,l1,⟨M,clock,since,seen,hR,hold,hsc,a1⟩,s1⟩:=tk _ s.heap
    have s2:Sat (objP r1 (.mapIter (some m) since seen.toArray clock)::objP m (.map (M.map (mke ek ev1)).toArray clock)::Γ') (lh w):=Bun.unfold ⟨h1,l1,a1,s1⟩
    have hbr:=s2.obj.1
    have hbm:=(Sat.swap s2).obj.1
    obtain ⟨V,v1,v2,v3⟩:=hR.vs
    obtain ⟨b,hb⟩:=(hR.map.tells k v).1 hF
    have hV:∃ V0,V=V0++[(k,v,b)]:=by
      have hne:V≠[]:=fun e=>by rw [e] at v2;simp at v2
      refine ⟨V.dropLast,?_⟩
      have h3:=List.dropLast_concat_getLast hne
      have h4:(V.getLast hne).1=k:=by
        have h5:(V.map (·.1)).getLast?=(vis++[k]).getLast?:=by rw [v2]
        rw [List.getLast?_map,List.getLast?_eq_some_getLast hne] at h5
        simpa using h5
      have h5:=key_inj' hR.map (v1 _ (List.getLast_mem hne)) hb h4
      rw [← h5];exact h3.symm
    obtain ⟨V0,rfl⟩:=hV
    have hseen:seen.toArray=(V0.map (·.2.2)).toArray.push b:=by rw [← v3];simp
    rw [hseen] at hbr
    have hrun:=run_entry_gen (P:=P) w r1 m since (V0.map (·.2.2)).toArray _ clock (mke ek ev1 (k,v,b)) hbr hbm (by simpa using ⟨k,v,b,hb,rfl⟩) (by simpa [mke,Function.comp_def] using hR.map.born)
    simp [execOp,s.ev hx,hrun,mke]) k1
end
/-- Cells parted behind the first. -/
theorem cells_part {b o:Nat} {v:Value} {vs:List Value} {Γ:List HProp} {h:Hp} (s:Sat (cells b o (v::vs)::Γ) h):Sat (cells b o [v]::cells b (o+1) vs::Γ) h:=by
  obtain ⟨h1,l1,a1,s1⟩:=s
  let h2:Hp:=fun l=>if l=(b,some o) then h1 l else none
  have l2:Hle h2 h1:=fun l x hx=>by
    simp only [h2] at hx;split at hx
    · exact hx
    · cases hx
  refine ⟨h2,l2.trans l1,fun i x hx=>?_,Hmin h1 h2,fun l x hx=>?_,fun i x hx=>?_,s1.mono fun l x hx=>?_⟩
  · rcases i with _ | i
    · simp only [List.getElem?_cons_zero,Option.some.injEq] at hx
      subst hx
      simp only [h2,Nat.add_zero,if_true]
      exact a1 0 v rfl
    · simp at hx
  · obtain ⟨e1,e2⟩:=sP.1 hx
    exact sP.2 ⟨e1,l1 l x e2⟩
  · refine sP.2 ⟨?_,?_⟩
    · simp only [h2];rw [if_neg (by simp;omega)]
    · have:=a1 (i+1) x (by simpa using hx)
      rw [show o+1+i=o+(i+1) from by omega];exact this
  · obtain ⟨e1,e2⟩:=sP.1 hx
    refine sP.2 ⟨?_,sP.2 ⟨?_,e2⟩⟩
    · cases e:Hmin h1 h2 l with
      | none=>rfl
      | some u=>rw [(sP.1 e).2] at e1;cases e1
    · cases e:h2 l with
      | none=>rfl
      | some u=>rw [l2 l u e] at e1;cases e1
theorem cells_whole {b o:Nat} {v:Value} {vs:List Value} {Γ:List HProp} {h:Hp} (s:Sat (cells b o [v]::cells b (o+1) vs::Γ) h):Sat (cells b o (v::vs)::Γ) h:=by
  obtain ⟨h1,l1,⟨h2,l2,a2,h3,l3,a3,-⟩,s1⟩:=Bun.fold (Γ:=[cells b o [v],cells b (o+1) vs]) s
  refine ⟨h1,l1,fun i x hx=>?_,s1⟩
  rcases i with _ | i
  · exact l2 _ _ (a2 0 x (by simpa using hx))
  · have:=(sP.1 (l3 _ _ (a3 i x (by simpa using hx)))).2
    rw [show o+1+i=o+(i+1) from by omega] at this
    exact this
end Go.Ab
