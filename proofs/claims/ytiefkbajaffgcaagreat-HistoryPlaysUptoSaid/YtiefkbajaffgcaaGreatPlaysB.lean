/- What the law Plays rests on, part 2 of 7. -/
import Derived.Test.YtiefkbajaffgcaaGreatPlaysA
import Derived.Test.YtiefkbajaffgcaaGreatProg
namespace Go.Ab
open Go Go.Proofs
abbrev υ'138:=@Tryz.underlying138
abbrev ζ'134:=@Tryz.sizeOf134
abbrev α'134:=@Tryz.isAgg134
abbrev υ'134:=@Tryz.underlying134
abbrev υ'22:=@Tryz.underlying22
abbrev ζ'3:=@Tryz.sizeOf3
abbrev α'3:=@Tryz.isAgg3
abbrev υ'24:=@Tryz.underlying24
abbrev ζ'22:=@Tryz.sizeOf22
abbrev α'22:=@Tryz.isAgg22
abbrev κ'56:=@Tryz.call56
abbrev υ'3:=@Tryz.underlying3
abbrev ω'133:=@Tryz.zeroValue133
abbrev ζ'133:=@Tryz.sizeOf133
abbrev υ'133:=@Tryz.underlying133
abbrev ζ'131:=@Tryz.sizeOf131
abbrev α'131:=@Tryz.isAgg131
abbrev ζ'136:=@Tryz.sizeOf136
abbrev α'136:=@Tryz.isAgg136
abbrev υ'136:=@Tryz.underlying136
abbrev ζ'149:=@Tryz.sizeOf149
abbrev υ'149:=@Tryz.underlying149
abbrev υ'52:=@Tryz.underlying52
abbrev ζ'50:=@Tryz.sizeOf50
abbrev α'50:=@Tryz.isAgg50
abbrev ζ'135:=@Tryz.sizeOf135
abbrev α'135:=@Tryz.isAgg135
abbrev υ'135:=@Tryz.underlying135
abbrev ω'3:=@Tryz.zeroValue3
abbrev ζ'24:=@Tryz.sizeOf24
abbrev α'52:=@Tryz.isAgg52
abbrev ζ'52:=@Tryz.sizeOf52
abbrev ω'149:=@Tryz.zeroValue149
abbrev α'133:=@Tryz.isAgg133
abbrev α'149:=@Tryz.isAgg149
abbrev τ'3:=@Tryz.typeInfo3
abbrev τ'149:=@Tryz.typeInfo149
abbrev ω'138:=@Tryz.zeroValue138
abbrev α'24:=@Tryz.isAgg24
abbrev υ'159:=@Tryz.underlying159
abbrev ζ'97:=@Tryz.sizeOf97
abbrev τ'97:=@Tryz.typeInfo97
abbrev υ'162:=@Tryz.underlying162
abbrev ζ'159:=@Tryz.sizeOf159
abbrev α'159:=@Tryz.isAgg159
abbrev α'97:=@Tryz.isAgg97
abbrev υ'218:=@Tryz.underlying218
abbrev ζ'94:=@Tryz.sizeOf94
abbrev α'94:=@Tryz.isAgg94
abbrev υ'94:=@Tryz.underlying94
abbrev κ'58:=@Tryz.call58
abbrev κ'65:=@Tryz.call65
abbrev ω'94:=@Tryz.zeroValue94
abbrev υ'86:=@Tryz.underlying86
abbrev ζ'83:=@Tryz.sizeOf83
abbrev α'83:=@Tryz.isAgg83
abbrev υ'83:=@Tryz.underlying83
abbrev ζ'82:=@Tryz.sizeOf82
abbrev α'82:=@Tryz.isAgg82
abbrev κ'60:=@Tryz.call60
abbrev υ'153:=@Tryz.underlying153
abbrev ω'153:=@Tryz.zeroValue153
abbrev ζ'153:=@Tryz.sizeOf153
abbrev ζ'84:=@Tryz.sizeOf84
abbrev α'84:=@Tryz.isAgg84
abbrev α'153:=@Tryz.isAgg153
abbrev υ'84:=@Tryz.underlying84
abbrev ω'155:=@Tryz.zeroValue155
abbrev ζ'155:=@Tryz.sizeOf155
abbrev υ'155:=@Tryz.underlying155
abbrev κ'63:=@Tryz.call63
abbrev κ'69:=@Tryz.call69
abbrev κ'66:=@Tryz.call66
abbrev υ'168:=@Tryz.underlying168
abbrev υ'105:=@Tryz.underlying105
abbrev κ'76:=@Tryz.call76
abbrev κ'106:=@Tryz.call106
abbrev υ'98:=@Tryz.underlying98
abbrev υ'166:=@Tryz.underlying166
abbrev ζ'164:=@Tryz.sizeOf164
abbrev α'164:=@Tryz.isAgg164
abbrev υ'164:=@Tryz.underlying164
abbrev κ'108:=@Tryz.call108
abbrev υ'101:=@Tryz.underlying101
abbrev ζ'105:=@Tryz.sizeOf105
abbrev α'105:=@Tryz.isAgg105
abbrev υ'221:=@Tryz.underlying221
abbrev υ'104:=@Tryz.underlying104
abbrev ζ'102:=@Tryz.sizeOf102
abbrev α'102:=@Tryz.isAgg102
abbrev υ'102:=@Tryz.underlying102
abbrev ζ'180:=@Tryz.sizeOf180
abbrev υ'180:=@Tryz.underlying180
abbrev κ'87:=@Tryz.call87
abbrev κ'81:=@Tryz.call81
abbrev κ'82:=@Tryz.call82
abbrev ω'180:=@Tryz.zeroValue180
abbrev ζ'101:=@Tryz.sizeOf101
abbrev α'101:=@Tryz.isAgg101
abbrev ζ'98:=@Tryz.sizeOf98
abbrev α'98:=@Tryz.isAgg98
abbrev κ'79:=@Tryz.call79
abbrev κ'38:=@Tryz.call38
abbrev κ'88:=@Tryz.call88
abbrev κ'33:=@Tryz.call33
abbrev κ'85:=@Tryz.call85
abbrev τ'105:=@Tryz.typeInfo105
abbrev ω'104:=@Tryz.zeroValue104
abbrev υ'4:=@Tryz.underlying4
abbrev α'4:=@Tryz.isAgg4
abbrev ζ'4:=@Tryz.sizeOf4
abbrev υ'29:=@Tryz.underlying29
abbrev υ'48:=@Tryz.underlying48
abbrev ζ'44:=@Tryz.sizeOf44
abbrev α'44:=@Tryz.isAgg44
abbrev υ'45:=@Tryz.underlying45
abbrev ω'48:=@Tryz.zeroValue48
abbrev ζ'45:=@Tryz.sizeOf45
abbrev ζ'46:=@Tryz.sizeOf46
abbrev ω'119:=@Tryz.zeroValue119
abbrev α'46:=@Tryz.isAgg46
abbrev υ'117:=@Tryz.underlying117
abbrev ω'117:=@Tryz.zeroValue117
abbrev υ'46:=@Tryz.underlying46
abbrev ζ'119:=@Tryz.sizeOf119
abbrev α'119:=@Tryz.isAgg119
abbrev υ'119:=@Tryz.underlying119
abbrev α'45:=@Tryz.isAgg45
abbrev ζ'90:=@Tryz.sizeOf90
abbrev υ'65:=@Tryz.underlying65
abbrev ω'65:=@Tryz.zeroValue65
abbrev υ'90:=@Tryz.underlying90
abbrev ζ'65:=@Tryz.sizeOf65
abbrev α'65:=@Tryz.isAgg65
abbrev κ'62:=@Tryz.call62
abbrev κ'23:=@Tryz.call23
abbrev υ'53:=@Tryz.underlying53
abbrev ω'52:=@Tryz.zeroValue52
abbrev κ'15:=@Tryz.call15
abbrev υ'62:=@Tryz.underlying62
abbrev τ'65:=@Tryz.typeInfo65
abbrev κ'7:=@Tryz.call7
abbrev υ'75:=@Tryz.underlying75
abbrev ζ'73:=@Tryz.sizeOf73
abbrev α'73:=@Tryz.isAgg73
abbrev υ'73:=@Tryz.underlying73
abbrev ζ'112:=@Tryz.sizeOf112
abbrev υ'112:=@Tryz.underlying112
abbrev υ'50:=@Tryz.underlying50
abbrev ζ'70:=@Tryz.sizeOf70
abbrev α'70:=@Tryz.isAgg70
abbrev ω'112:=@Tryz.zeroValue112
abbrev κ'80:=@Tryz.call80
abbrev υ'33:=@Tryz.underlying33
abbrev ζ'62:=@Tryz.sizeOf62
abbrev α'62:=@Tryz.isAgg62
abbrev τ'112:=@Tryz.typeInfo112
abbrev κ'39:=@Tryz.call39
abbrev κ'43:=@Tryz.call43
abbrev κ'95:=@Tryz.call95
abbrev υ'142:=@Tryz.underlying142
abbrev υ'55:=@Tryz.underlying55
abbrev υ'43:=@Tryz.underlying43
abbrev ζ'41:=@Tryz.sizeOf41
abbrev α'41:=@Tryz.isAgg41
abbrev υ'41:=@Tryz.underlying41
abbrev ζ'40:=@Tryz.sizeOf40
abbrev α'40:=@Tryz.isAgg40
abbrev υ'40:=@Tryz.underlying40
abbrev ζ'38:=@Tryz.sizeOf38
abbrev υ'38:=@Tryz.underlying38
abbrev ζ'29:=@Tryz.sizeOf29
abbrev ζ'39:=@Tryz.sizeOf39
abbrev υ'39:=@Tryz.underlying39
abbrev ζ'33:=@Tryz.sizeOf33
abbrev ζ'53:=@Tryz.sizeOf53
abbrev α'53:=@Tryz.isAgg53
abbrev τ'52:=@Tryz.typeInfo52
abbrev ζ'55:=@Tryz.sizeOf55
abbrev υ'27:=@Tryz.underlying27
end Go.Ab
set_option linter.unusedVariables false
set_option linter.unusedSimpArgs false
set_option maxRecDepth 100000
namespace Go.Ab.Fe
open Go Go.Proofs Go.Ab
abbrev T3:=Int × Int × Int
abbrev T2:=Int × Int
def encZ (z:Int):List Value:=[.int .i64 z]
theorem encZ_len:∀ x,(encZ x).length=1:=fun _=>rfl
theorem encZ_one:∀ x,(encZ x).all Value.oneCell'=true:=fun _=>rfl
def enc3 (x:T3):List Value:=[.int .i64 x.1,.int .i64 x.2.1,.int .i64 x.2.2]
theorem enc3_len:∀ x,(enc3 x).length=3:=fun _=>rfl
theorem enc3_one:∀ x,(enc3 x).all Value.oneCell'=true:=fun _=>rfl
def enc2 (x:T2):List Value:=[.int .i64 x.1,.int .i64 x.2]
theorem enc2_len:∀ x,(enc2 x).length=2:=fun _=>rfl
theorem enc2_one:∀ x,(enc2 x).all Value.oneCell'=true:=fun _=>rfl
abbrev ev3 (x:T3):Value:=.agg #[.int .i64 x.1,.int .i64 x.2.1,.int .i64 x.2.2]
/-- A checker: the shape, how each thread stands, who holds each lock (-1: nobody), each barrier's open round, how many events. -/
structure CS where
  th:Int
  va:Int
  vo:Int
  lk:Int
  pa:List Int
  T:List T3
  O:List Int
  B:List T2
  n:Int
def stF (x:CS) (t:Int):T3:=if t < 0 then (0,0,0) else x.T.getD t.toNat (0,0,0)
def owV (x:CS) (l:Int):Int:=if l < 0 then -1 else x.O.getD l.toNat (-1)
def owF (x:CS) (l:Int):Option Int:=if owV x l=-1 then none else some (owV x l)
def opF (x:CS) (b:Int):T2:=x.B.getD b.toNat (0,0)
def fullF (x:CS) (t:Int):Prop:=(stF x t).1=2∧(stF x t).2.2 < (opF x (stF x t).2.1).1
instance (x:CS) (t:Int):Decidable (fullF x t):=by unfold fullF;infer_instance
def okK (x:CS) (k t o:Int):Prop :=
  (k=1∨k=2)∧o < x.va∨(k=3∨k=4)∧o < x.vo∨k=5∧o < x.lk∧owF x o=none∨k=6∧o < x.lk∧owF x o=some t ∨
  k=7∧o < x.th∧(stF x o).1=0∨k=8∧o < x.th∧(stF x o).1=3∨k=9∧o < x.B.length∨k=11∧o < 1
instance (x:CS) (k t o:Int):Decidable (okK x k t o):=by unfold okK;infer_instance
/-- May the event (kind k, thread t, object o) be next? -/
def canF (x:CS) (k t o:Int):Prop:=((stF x t).1=2∧k=10∧o=(stF x t).2.1∧fullF x t)∨((stF x t).1=1∧0≤o∧okK x k t o)
instance (x:CS) (k t o:Int):Decidable (canF x k t o):=by unfold canF;infer_instance
def arrF (op:T2) (p:Int):T2:=if op.2+1=p then (op.1+1,0) else (op.1,op.2+1)
def nextF (x:CS) (k t o:Int):CS :=
  if k=5 then ⟨x.th,x.va,x.vo,x.lk,x.pa,x.T,x.O.set o.toNat t,x.B,x.n+1⟩
  else if k=6 then ⟨x.th,x.va,x.vo,x.lk,x.pa,x.T,x.O.set o.toNat (-1),x.B,x.n+1⟩
  else if k=7 then ⟨x.th,x.va,x.vo,x.lk,x.pa,x.T.set o.toNat (1,0,0),x.O,x.B,x.n+1⟩
  else if k=9 then ⟨x.th,x.va,x.vo,x.lk,x.pa,x.T.set t.toNat (2,o,(opF x o).1),x.O,x.B.set o.toNat (arrF (opF x o) (x.pa.getD o.toNat 0)),x.n+1⟩
  else if k=10 then ⟨x.th,x.va,x.vo,x.lk,x.pa,x.T.set t.toNat (1,0,0),x.O,x.B,x.n+1⟩
  else if k=11 then ⟨x.th,x.va,x.vo,x.lk,x.pa,x.T.set t.toNat (3,0,0),x.O,x.B,x.n+1⟩
  else ⟨x.th,x.va,x.vo,x.lk,x.pa,x.T,x.O,x.B,x.n+1⟩
def nxF (x:CS) (k t o:Int):CS:=if canF x k t o then nextF x k t o else x
def nxE (x:CS) (k t o:Int):Int:=if canF x k t o then 0 else 6
/-- A shape that may be. -/
structure OkS (th va vo lk:Int) (pa:List Int):Prop where
  th:1≤th∧th≤65535
  va:0≤va∧va≤4096
  vo:0≤vo∧vo≤4096
  lk:0≤lk∧lk≤4096
  pl:pa.length≤4096
  pa:∀ p∈pa,1≤p∧p≤65535
def badP (p:Int):Bool:=decide (p < 1) || decide (65535 < p)
theorem okS_iff {th va vo lk:Int} {pa:List Int}:OkS th va vo lk pa↔((1≤th∧th≤65535)∧(0≤va∧va≤4096)∧(0≤vo∧vo≤4096)∧(0≤lk∧lk≤4096)∧pa.length≤4096∧∀ p∈pa,badP p=false):=by
  constructor
  · rintro ⟨a,b,c,d,e,f⟩
    exact ⟨a,b,c,d,e,fun p hp=>by have:=f p hp;simp [badP];omega⟩
  · rintro ⟨a,b,c,d,e,f⟩
    exact ⟨a,b,c,d,e,fun p hp=>by have:=f p hp;simp [badP] at this;omega⟩
instance (th va vo lk:Int) (pa:List Int):Decidable (OkS th va vo lk pa):=decidable_of_iff _ okS_iff.symm
def newF (th va vo lk:Int) (pa:List Int):CS:=⟨th,va,vo,lk,pa,(List.replicate th.toNat (0,0,0)).set 0 (1,0,0),List.replicate lk.toNat (-1),List.replicate pa.length (0,0),0⟩
/-- What holds of every checker. -/
structure CInv (x:CS):Prop where
  sh:OkS x.th x.va x.vo x.lk x.pa
  tl:(x.T.length:Int)=x.th
  ol:(x.O.length:Int)=x.lk
  bl:x.B.length=x.pa.length
  st:∀ s∈x.T,0≤s.1∧s.1≤3∧(s.1=2→0≤s.2.1∧s.2.1 < x.B.length∧0≤s.2.2∧s.2.2≤(opF x s.2.1).1)∧(s.1≠2→s.2=(0,0))
  op:∀ (i:Nat) (o:T2) (p:Int),x.B[i]?=some o→x.pa[i]?=some p→0≤o.1∧o.1≤x.n∧0≤o.2∧o.2 < p
  ow:∀ v∈x.O,v=-1∨(stF x v).1≠0
  n0:0≤x.n
theorem getD_some {α:Type} {l:List α} {i:Nat} {a d:α} (h:l[i]?=some a):l.getD i d=a:=by simp [List.getD,h]
theorem getD_out {α:Type} {l:List α} {i:Nat} {d:α} (h:l.length≤i):l.getD i d=d:=by simp [List.getD,List.getElem?_eq_none h]
theorem getD_mem' {α:Type} (l:List α) (i:Nat) (d:α):l.getD i d=d∨l.getD i d∈l:=by
  rcases Nat.lt_or_ge i l.length with h | h
  · obtain ⟨a,ha⟩:=cX h
    right;rw [getD_some ha];exact List.mem_of_getElem? ha
  · exact .inl (getD_out h)
theorem getD_set {α:Type} {l:List α} {i j:Nat} {a d:α} (h:i < l.length):(l.set i a).getD j d=if j=i then a else l.getD j d:=by
  simp only [List.getD,List.getElem?_set]
  by_cases e:i=j
  · subst e;simp [h]
  · rw [if_neg e,if_neg (Ne.symm e)]
theorem stF_nz {x:CS} {t:Int} (h:(stF x t).1≠0):0≤t∧t.toNat < x.T.length∧x.T[t.toNat]?=some (stF x t):=by
  unfold stF at h ⊢
  split at h
  · exact absurd J h
  · rename_i h0
    rcases Nat.lt_or_ge t.toNat x.T.length with h1 | h1
    · obtain ⟨a,ha⟩:=cX h1
      exact ⟨by omega,h1,by rw [if_neg h0,getD_some ha,ha]⟩
    · rw [getD_out h1] at h;exact absurd rfl h
theorem stF_at {x:CS} {t:Int} (h0:0≤t) (h:t < x.T.length):x.T[t.toNat]?=some (stF x t):=by
  obtain ⟨a,ha⟩:=cX (l:=x.T) (i:=t.toNat) Om
  rw [stF,if_neg Om,getD_some ha,ha]
theorem stF_out {x:CS} {t:Int} (h:t < 0∨(x.T.length:Int)≤t):stF x t=(0,0,0):=by
  unfold stF
  split
  · rfl
  · exact getD_out Om
theorem stF_mem {x:CS} {t:Int}:stF x t=(0,0,0)∨stF x t∈x.T:=by
  unfold stF
  split
  · exact .inl J
  · exact getD_mem' _ _ _
theorem stF_inv {x:CS} (hx:CInv x) (t:Int):0≤(stF x t).1∧(stF x t).1≤3∧((stF x t).1=2→0≤(stF x t).2.1∧(stF x t).2.1 < x.B.length∧0≤(stF x t).2.2∧(stF x t).2.2≤(opF x (stF x t).2.1).1)∧((stF x t).1≠2→(stF x t).2=(0,0)):=by
  rcases stF_mem (x:=x) (t:=t) with h | h
  · rw [h];exact ⟨by decide,by decide,fun h=>absurd h (by decide),fun _=>rfl⟩
  · exact hx.st _ h
theorem opF_at {x:CS} {b:Int} (h0:0≤b) (h:b < x.B.length):x.B[b.toNat]?=some (opF x b):=by
  obtain ⟨a,ha⟩:=cX (l:=x.B) (i:=b.toNat) Om
  rw [opF,getD_some ha,ha]
theorem owV_at {x:CS} {l:Int} (h0:0≤l) (h:l < x.O.length):x.O[l.toNat]?=some (owV x l):=by
  obtain ⟨a,ha⟩:=cX (l:=x.O) (i:=l.toNat) Om
  rw [owV,if_neg Om,getD_some ha,ha]
/-- What a checker's maps hold. -/
structure RelC (Fs:Int→Option T3) (Fo:Int→Option Int) (x:CS):Prop where
  st:∀ t,(Fs t).getD (0,0,0)=stF x t
  ow:∀ l,Fo l=owF x l
/-- A checker at b; its shape's list (at pa) is others' too. -/
def ck (pa:Option Addr) (pc b:Nat) (x:CS):HProp:=fun h=>∃ m1 m2 Fs Fo oa oc,RelC Fs Fo x∧Sat [cells b 0 [.int .i64 x.th,.int .i64 x.va,.int .i64 x.vo,.int .i64 x.lk,.slice pa x.pa.length pc,.map (some m1),.map (some m2),.slice oa x.B.length oc,.int .i64 x.n],mapO ekZ ev3 m1 Fs,mapO ekZ ekZ m2 Fo,own 2 enc2 oa oc x.B] h
section
variable {w0:World} {ds:List Deferred} {n:Nat} {e:Env} {Γ:List HProp} {X:Act→World→Prop}
theorem ck_open {pa:Option Addr} {pc b:Nat} {x:CS} (k:∀ m1 m2 Fs Fo oa oc,RelC Fs Fo x→Le (St w0 ds n e (cells b 0 [.int .i64 x.th,.int .i64 x.va,.int .i64 x.vo,.int .i64 x.lk,.slice pa x.pa.length pc,.map (some m1),.map (some m2),.slice oa x.B.length oc,.int .i64 x.n]::mapO ekZ ev3 m1 Fs::mapO ekZ ekZ m2 Fo::own 2 enc2 oa oc x.B::Γ)) X):Le (St w0 ds n e (ck pa pc b x::Γ)) X:=fun a w s=>by
  obtain ⟨h1,l1,⟨m1,m2,Fs,Fo,oa,oc,hr,a1⟩,s1⟩:=s.heap
  exact k m1 m2 Fs Fo oa oc hr a w ⟨s.defers,s.size,s.env,Bun.unfold ⟨h1,l1,a1,s1⟩,s.amb⟩
theorem ck_fold {Γ':List HProp} {b:Nat} (x:CS) {pn on:Nat} {pa:Option Addr} {pc m1 m2:Nat} {Fs:Int→Option T3} {Fo:Int→Option Int} {oa:Option Addr} {oc:Nat}
    (tk:Takes Γ [cells b 0 [.int .i64 x.th,.int .i64 x.va,.int .i64 x.vo,.int .i64 x.lk,.slice pa pn pc,.map (some m1),.map (some m2),.slice oa on oc,.int .i64 x.n],mapO ekZ ev3 m1 Fs,mapO ekZ ekZ m2 Fo,own 2 enc2 oa oc x.B] Γ') (h1:pn=x.pa.length) (h2:on=x.B.length) (hr:RelC Fs Fo x)
    (k:Le (St w0 ds n e (ck pa pc b x::Γ')) X):Le (St w0 ds n e Γ) X:=cL (fun h s=>by
  subst h1 h2
  obtain ⟨h1,l1,a1,s1⟩:=Bun.fold (tk h s)
  exact ⟨h1,l1,⟨m1,m2,Fs,Fo,oa,oc,hr,a1⟩,s1⟩) k
end
theorem none_spec (pa:Option Addr) (pc b:Nat) (x:CS):Spec Tryz.prog 56 [.pointer (some ⟨b,0,none⟩)] [ck pa pc b x] (fun (_:Unit)=>.bool false) (fun _=>True) (fun _=>[ck pa pc b x]):=by
 refine kS (n:=12) Tryz.func56 J J J ?_
 intro Γ w0
 simp only [argE,Ca,Na,Zd,Nat.reduceAdd]
 refine qL (qC (.q 0 (.done)) Kr ?_)
 refine qR J J J J (qS (qQ (qL (cP (A:=ck pa pc b x) Tk ?_))))
 refine ck_open fun m1 m2 Fs Fo oa oc hR=>?_
 refine qC (.q 0 (.q 1 (.q 2 (.q 3 (.q 4 (.q 5 (.q 6 (.q 7 (.q 8 (.q 9 (.done))))))))))) Kr ?_
 refine qK J J J J (cM J J J J Tryz.underlying82 ?_)
 refine kF 4 J (v':=.bool false) J ?_
 refine qK J J J J (qK J J J J (qZ J J J J (qG (k:=5) J J J J υ'138 J ζ'134 J ?_)))
 refine qP (j:=5) J J J J α'134 Tk Az (by rfl) ?_
 refine q_eq_nilm J J J J υ'134 ?_
 refine kF 10 J (v':=.bool false) J ?_
 refine kD J J J J J (qR J J J J (qS (qW [2] (e':=[(2,_)]) J ?_)))
 refine qQ (qJ (ck_fold (b:=b) x (pa:=pa) (pc:=pc) (m1:=m1) (m2:=m2) (oa:=oa) (oc:=oc) Ts (by rfl) (by rfl) (hR) ?_))
 refine cR J J (()) (by first | rfl | (first | rfl | (congr 1;done) | (congr 1 <;> first | rfl | omega | (simp;done) | (simp;omega)))) (by trivial) ?_
 exact Tf
theorem asked_spec (cv:Value) (i m:Int):Spec Tryz.prog 103 [cv,.int .i64 i,.int .i64 m] [] (fun (_:Unit)=>.int .i64 (if 0≤i∧i < m then 0 else 2)) (fun _=>True) (fun _=>[]):=by
 refine kS (n:=14) Tryz.func103 J J J ?_
 intro Γ w0
 simp only [argE,Ca,Na,Zd,Nat.reduceAdd]
 refine qL (qC (.q 0 (.done)) Kr ?_)
 refine qR J J J J (qS (qQ (qL (qL (qC (.q 0 (.q 1 (.q 2 (.q 3 (.q 4 (.q 5 (.q 6 (.done)))))))) Kr ?_)))))
 refine qK J J J J (qD J J J J J (sK _ _ _ _) ?_)
 refine qK J J J J ?_
 refine cV 9 J (fun g_1=>?_) (fun g_1=>?_)
 ·
  refine qX J J J J (qX J J J J (qX J J J J (kL J J J J J (qS (qW [13] (e':=[(13,_)]) J ?_)))))
  refine qQ (cC J ?_)
  refine qL (qC (.q 0 (.done)) Kr ?_)
  refine qR J J J J (qS (qQ (qJ (qN (cR J J (()) (by rw [if_neg Om]) (by trivial) ?_)))))
  exact Tf
 refine qK J J J J (qK J J J J (qD J J J J J (b_geq _ _ _ _) ?_))
 refine kD J J J J J (qS (qW [13] (e':=[(13,_)]) J ?_))
 refine qQ ?_
 refine qF J (fun h_2=>?_) (fun h_2=>?_)
 ·
  refine qL (qC (.q 0 (.done)) Kr ?_)
  refine qR J J J J (qS (qQ (qJ (qN (cR J J (()) (by rw [if_neg Om]) (by trivial) ?_)))))
  exact Tf
 refine qH (qQ (qL (qC (.q 0 (.done)) Kr ?_)))
 refine qR J J J J (qS (qQ (qJ (cR J J (()) (by rw [if_pos Om]) (by trivial) ?_))))
 exact Tf
theorem bad1_spec (p:Int):Spec Tryz.prog 105 [.int .i64 p] [] (fun (_:Unit)=>.bool (badP p)) (fun _=>True) (fun _=>[]):=by
 refine kS (n:=9) Tryz.func105 J J J ?_
 intro Γ w0
 simp only [argE,Ca,Na,Zd,Nat.reduceAdd]
 refine qL (qC (.q 0 (.done)) Kr ?_)
 refine qR J J J J (qS (qQ (qL (qC (.q 0 (.q 1 (.q 2 (.q 3 (.q 4 (.q 5 (.q 6 (.done)))))))) Kr ?_))))
 refine qK J J J J (qD J J J J J (sK _ _ _ _) ?_)
 refine qK J J J J ?_
 refine cV 5 J (fun g_1=>?_) (fun g_1=>?_)
 ·
  refine qX J J J J (qX J J J J (kL J J J J J (qR J J J J (qS (qW [2] (e':=[(2,_)]) J ?_)))))
  refine qQ (qJ (cR J J (()) (by simp [badP, *]) (by trivial) ?_))
  exact Tf
 refine qK J J J J (qD J J J J J (b_gtr _ _ _ _) ?_)
 refine kD J J J J J (qR J J J J (qS (qW [2] (e':=[(2,_)]) J ?_)))
 refine qQ (qJ (cR J J (()) (by simp [badP, *]) (by trivial) ?_))
 exact Tf
theorem index_spec (xs:List Int) (ao:Option Addr) (n c:Nat) (A:HProp) (hr:RdS A ao (xs.flatMap encZ)) (hn:xs.length=n) (hb:n≤4000000):Spec Tryz.prog 127 [.slice ao n c,.func (.func 105) #[] #[]] [A] (fun (r:Int)=>.int .i64 r) (fun r=>((∃ p∈xs,badP p=true)→0≤r)∧(0≤r→∃ p∈xs,badP p=true)) (fun r=>[A]):=by
 refine kS (n:=19) Tryz.func127 J J J ?_
 intro Γ w0
 simp only [argE,Ca,Na,Zd,Nat.reduceAdd]
 refine qL (qC (.q 0 (.done)) Kr ?_)
 refine qR J J J J (qS (qQ (qL (qL (qC (.q 0 (.q 1 (.q 2 (.done)))) Kr ?_)))))
 refine qK J J J J (sR J J J J υ'22 ?_)
 refine qK J J J J (qS (qQ (kV ?_)))
 refine sS (α:=Nat) (fun (i:Nat)=>i≤n∧(∀ (j:Nat) (p:Int),j < i→xs[j]?=some p→badP p=false)) (fun (i:Nat)=>[(8,.int .i64 ((i:Nat):Int))]) (fun (i:Nat)=>[]) (fun (i:Nat)=>n - i) [0,1,7] (er:=[(0,_),(1,_),(7,_)]) J (0) ?_ (by exact ⟨rfl,trivial⟩) (by (try dsimp only);(try simp only [Ad,Zd]);(repeat ((with_reducible apply Z2);focus (first | (with_reducible (repeat (first | exact Z0 | apply Z1));done) | (repeat (first | exact Z0 | apply Z1)))));exact Z3) ?_
 · exact ⟨Nat.zero_le _,fun j p h=>by omega⟩
 rintro i ⟨hle_i,hI⟩
 try simp only [Ca,Na]
 refine qL (qC (.q 0 (.done)) Kr ?_)
 refine qD J J J J J (sK _ _ _ _) ?_
 refine qS (qQ (qL ?_))
 refine qF J (fun hlt=>?_) (fun hlt=>?_)
 ·
  refine qH (qQ (qL (kV (qL ?_))))
  obtain ⟨p,hp⟩:=cX (l:=xs) (i:=i) Om
  refine qC (.q 0 (.q 1 (.done))) Kr ?_
  refine qK J J J J (qR J J J J (qS (qQ (qL (qC (.q 0 (.q 1 (.q 2 (.q 3 (.q 4 ((.l 5 [] (.done)))))))) Kr ?_)))))
  refine qK J J J J (qK J J J J (qK J J J J (q_idxR (sz:=0) (k:=i) J J J J J υ'22 ζ'3 (hr) hp encZ_len (by first | rfl | omega) Om ?_)))
  intro ib14 io14 _ hd14
  refine q_load J J J J α'3 Tk (hd14 0 (.int .i64 p) J) ?_
  have sp_1:=bad1_spec p
  refine qB J J J J J J Tryz.call105 (sp_1) Ts ?_
  rintro ⟨⟩ -
  try simp only [Ca,Na]
  refine qV (qS (qW [0,1,5,7,8,16] (e':=[(0,_),(1,_),(5,_),(7,_),(8,_),(16,_)]) J ?_))
  refine qQ ?_
  refine c_cond J (fun hbad=>?_) (fun hbad=>?_)
  ·
   try simp only [Bool.and_eq_true,Bool.or_eq_true,Bool.not_eq_true',Bool.not_eq_false',Bool.and_eq_false_iff,Bool.or_eq_false_iff,decide_eq_true_eq,decide_eq_false_iff_not] at hbad
   refine qL (qC (.q 0 (.q 1 (.done))) Kr ?_)
   refine qK J J J J (qR J J J J (qS (qW [4] (e':=[(4,_)]) J ?_)))
   refine qQ (qJ (kH (qN (qN (kH (qN (cR J J (((i:Nat):Int)) (by first | rfl | (first | rfl | (congr 1;done) | (congr 1 <;> first | rfl | omega | (simp;done) | (simp;omega)))) (by exact ⟨fun _=>by omega,fun _=>⟨p,List.mem_of_getElem? hp,hbad⟩⟩) ?_)))))))
   exact Tf
  try simp only [Bool.and_eq_true,Bool.or_eq_true,Bool.not_eq_true',Bool.not_eq_false',Bool.and_eq_false_iff,Bool.or_eq_false_iff,decide_eq_true_eq,decide_eq_false_iff_not] at hbad
  have hgood:badP p=false:=by simpa using hbad
  refine qH (kG (qQ (qC (.q 0 (.q 1 (.done))) Kr ?_)))
  refine qD J J J J J (cF _ (by exact kY Om Om)) ?_
  refine qK J J J J (qS (qQ ?_))
  refine kZ (x:=i) (i+1) ?_ ?_ ?_ ?_
  · exact ⟨by omega,fun j q hj hq=>(by
        by_cases h:j=i
        · subst h;rw [hp] at hq;cases hq;exact hgood
        · exact hI j q Om hq)⟩
  · show n - (i+1) < n - i;omega
  · exact ⟨rfl,rfl,rfl,rfl,trivial⟩
  · (try simp only [Ca,Na]);exact Tf
 refine cS (qY (qY (kK (qQ (qL (qC (.q 0 (.done)) Kr ?_))))))
 refine qR J J J J (qS (qW [4] (e':=[(4,_)]) J ?_))
 refine qQ (qJ ?_)
 refine cR J J ((-1)) (by first | rfl | (first | rfl | (congr 1;done) | (congr 1 <;> first | rfl | omega | (simp;done) | (simp;omega)))) (by exact ⟨fun h=>by
   obtain ⟨p,h1,h2⟩:=h
   obtain ⟨j,hj⟩:=List.getElem?_of_mem h1
   rw [hI j p (by have:=(List.getElem?_eq_some_iff.1 hj).1;omega) hj] at h2;exact absurd h2 (by decide),fun h=>by omega⟩) ?_
 exact Tf
theorem contains_spec (xs:List Int) (ao:Option Addr) (n c:Nat) (A:HProp) (hr:RdS A ao (xs.flatMap encZ)) (hn:xs.length=n) (hb:n≤4000000):Spec Tryz.prog 104 [.slice ao n c,.func (.func 105) #[] #[]] [A] (fun (_:Unit)=>.bool (decide (∃ p∈xs,badP p=true))) (fun _=>True) (fun _=>[A]):=by
 refine kS (n:=9) Tryz.func104 J J J ?_
 intro Γ w0
 simp only [argE,Ca,Na,Zd,Nat.reduceAdd]
 refine qL (qC (.q 0 (.done)) Kr ?_)
 refine qR J J J J (qS (qQ (qL (qC (.q 0 (.q 1 ((.l 2 [] (.q 3 (.q 4 (.done))))))) Kr ?_))))
 refine qK J J J J (qK J J J J ?_)
 have sp_1:=index_spec xs ao n c A (hr) Ln Om
 refine qB J J J J J J Tryz.call127 (sp_1) Ts ?_
 rintro r ⟨hr1,hr2⟩
 try simp only [Ca,Na]
 refine qV (qD J J J J J (b_geq _ _ _ _) ?_)
 refine qR J J J J (qS (qW [4] (e':=[(4,_)]) J ?_))
 refine qQ (qJ (cR J J (()) (by congr 1;rw [decide_eq_decide];exact ⟨hr2,hr1⟩) (by trivial) ?_))
 exact Tf
theorem shape_spec (th va vo lk:Int) (pl:List Int) (ao:Option Addr) (n c:Nat) (A:HProp) (hr:RdS A ao (pl.flatMap encZ)) (hn:pl.length=n) (hb:n≤4000000):Spec Tryz.prog 70 [.agg #[.int .i64 th,.int .i64 va,.int .i64 vo,.int .i64 lk,.slice ao n c]] [A] (fun (_:Unit)=>.int .i64 (if OkS th va vo lk pl then 0 else 5)) (fun _=>True) (fun _=>[A]):=by
 refine kS (n:=37) Tryz.func70 J J J ?_
 intro Γ w0
 simp only [argE,Ca,Na,Zd,Nat.reduceAdd]
 refine qL (qC ((.l 0 [] (.q 1 (.done)))) Kr ?_)
 refine sG J J J J (us:=[_,_,_,_,_]) J ?_
 intro b1
 refine qV (qR J J J J (qS (qQ (qL (qL (qC (.q 0 (.q 1 (.q 2 (.q 3 (.q 4 (.q 5 (.q 6 (.q 7 (.q 8 (.q 9 (.q 10 (.q 11 (.q 12 (.q 13 (.q 14 (.q 15 (.q 16 (.q 17 (.q 18 (.q 19 (.q 20 (.q 21 (.q 22 (.q 23 (.q 24 (.q 25 (.q 26 (.q 27 (.q 28 (.q 29 (.q 30 (.done)))))))))))))))))))))))))))))))) Kr ?_))))))
 refine qG (k:=0) J J J J υ'24 J ζ'3 J ?_
 refine qP (j:=0) J J J J α'3 Tk Az (by rfl) ?_
 refine qD J J J J J (sK _ _ _ _) ?_
 refine qK J J J J ?_
 refine cV 6 J (fun h1=>?_) (fun h1=>?_)
 ·
  refine qX J J J J (qX J J J J (qX J J J J (kL J J J J J (qK J J J J (qX J J J J (qX J J J J (qX J J J J (qX J J J J ?_))))))))
  refine qX J J J J (qX J J J J (qX J J J J (qX J J J J (kL J J J J J (qK J J J J (qX J J J J (qX J J J J (qX J J J J ?_))))))))
  refine qX J J J J (qX J J J J (qX J J J J (qX J J J J (qX J J J J (qX J J J J (qX J J J J (qX J J J J (kL J J J J J ?_))))))))
  refine qS (qW [1,33] (e':=[(1,_),(33,_)]) J ?_)
  refine qQ (cC J ?_)
  refine qL (qC (.q 0 (.done)) Kr ?_)
  refine qR J J J J (qS (qQ (qJ (qN (cR J J (()) (by rw [if_neg (fun h=>by have h1:=h.th;have h2:=h.va;have h3:=h.vo;have h4:=h.lk;have h5:=h.pl;omega)]) (by trivial) ?_)))))
  exact Tf
 refine qG (k:=0) J J J J υ'24 J ζ'3 J ?_
 refine qP (j:=0) J J J J α'3 Tk Az (by rfl) ?_
 refine qD J J J J J (b_gtr _ _ _ _) ?_
 refine kD J J J J J (qK J J J J ?_)
 refine cV 11 J (fun h2=>?_) (fun h2=>?_)
 ·
  refine qX J J J J (qX J J J J (qX J J J J (qX J J J J (qX J J J J (qX J J J J (qX J J J J (qX J J J J (kL J J J J J ?_))))))))
  refine qK J J J J (qX J J J J (qX J J J J (qX J J J J (qX J J J J (qX J J J J (qX J J J J (qX J J J J (qX J J J J ?_))))))))
  refine qX J J J J (qX J J J J (qX J J J J (kL J J J J J (qS (qW [1,33] (e':=[(1,_),(33,_)]) J ?_)))))
  refine qQ (cC J ?_)
  refine qL (qC (.q 0 (.done)) Kr ?_)
  refine qR J J J J (qS (qQ (qJ (qN (cR J J (()) (by rw [if_neg (fun h=>by have h1:=h.th;have h2:=h.va;have h3:=h.vo;have h4:=h.lk;have h5:=h.pl;omega)]) (by trivial) ?_)))))
  exact Tf
 refine qG (k:=1) J J J J υ'24 J ζ'3 J ?_
 refine qP (j:=1) J J J J α'3 Tk Az (by rfl) ?_
 refine qG (k:=2) J J J J υ'24 J ζ'3 J ?_
 refine qP (j:=2) J J J J α'3 Tk Az (by rfl) ?_
 refine qG (k:=3) J J J J υ'24 J ζ'3 J ?_
 refine qP (j:=3) J J J J α'3 Tk Az (by rfl) ?_
 refine q_min3 J J J J J J ?_
 refine qD J J J J J (sK _ _ _ _) ?_
 refine kD J J J J J (qK J J J J ?_)
 refine cV 21 J (fun h3=>?_) (fun h3=>?_)
 ·
  refine qX J J J J (qX J J J J (qX J J J J (qX J J J J (qX J J J J (qX J J J J (qX J J J J (qX J J J J (qX J J J J ?_))))))))
  refine qX J J J J (qX J J J J (kL J J J J J (qS (qW [1,33] (e':=[(1,_),(33,_)]) J ?_))))
  refine qQ (cC J ?_)
  refine qL (qC (.q 0 (.done)) Kr ?_)
  refine qR J J J J (qS (qQ (qJ (qN (cR J J (()) (by rw [if_neg (fun h=>by have h1:=h.th;have h2:=h.va;have h3:=h.vo;have h4:=h.lk;have h5:=h.pl;omega)]) (by trivial) ?_)))))
  exact Tf
 refine qG (k:=1) J J J J υ'24 J ζ'3 J ?_
 refine qP (j:=1) J J J J α'3 Tk Az (by rfl) ?_
 refine qG (k:=2) J J J J υ'24 J ζ'3 J ?_
 refine qP (j:=2) J J J J α'3 Tk Az (by rfl) ?_
 refine qG (k:=3) J J J J υ'24 J ζ'3 J ?_
 refine qP (j:=3) J J J J α'3 Tk Az (by rfl) ?_
 refine qG (k:=4) J J J J υ'24 J ζ'22 J ?_
 refine qP (j:=4) J J J J α'22 Tk Az (by rfl) ?_
 refine sR J J J J υ'22 ?_
 refine q_max4 J J J J J J J ?_
 refine qD J J J J J (b_gtr _ _ _ _) ?_
 refine kD J J J J J (qS (qW [1,33] (e':=[(1,_),(33,_)]) J ?_))
 refine qQ ?_
 refine qF J (fun h4=>?_) (fun h4=>?_)
 ·
  refine qL (qC (.q 0 (.done)) Kr ?_)
  refine qR J J J J (qS (qQ (qJ (qN (cR J J (()) (by rw [if_neg (fun h=>by have h1:=h.th;have h2:=h.va;have h3:=h.vo;have h4:=h.lk;have h5:=h.pl;omega)]) (by trivial) ?_)))))
  exact Tf
 refine qH (qQ (qL (qL (qC (.q 0 (.q 1 ((.l 2 [] (.done))))) Kr ?_))))
 refine qG (k:=4) J J J J υ'24 J ζ'22 J ?_
 refine qP (j:=4) J J J J α'22 Tk Az (by rfl) ?_
 have sp_1:=contains_spec pl ao n c A (hr) Ln Om
 refine qB J J J J J J Tryz.call104 (sp_1) Ts ?_
 rintro ⟨⟩ -
 try simp only [Ca,Na]
 refine qV (qS (qW [36] (e':=[(36,_)]) J ?_))
 refine qQ ?_
 refine qF J (fun hp=>?_) (fun hp=>?_)
 ·
  have hno:¬ OkS th va vo lk pl:=fun h=>by
    obtain ⟨p,q1,q2⟩:=hp
    rw [(okS_iff.1 h).2.2.2.2.2 p q1] at q2;cases q2
  refine qL (qC (.q 0 (.done)) Kr ?_)
  refine qR J J J J (qS (qQ (qJ (qN (cR J J (()) (by rw [if_neg hno]) (by trivial) ?_)))))
  exact Tf
 refine qH (qQ (qL (qC (.q 0 (.done)) Kr ?_)))
 refine qR J J J J (qS (qQ (qJ ?_)))
 refine cR J J (()) (by rw [if_pos (okS_iff.2 ⟨by omega,by omega,by omega,by omega,by omega,fun p q=>by
   cases h:badP p with
   | false=>rfl
   | true=>exact absurd ⟨p,q,h⟩ hp⟩)]) (by trivial) ?_
 exact Tf
end Go.Ab.Fe
set_option linter.unusedVariables false
set_option linter.unusedSimpArgs false
set_option maxRecDepth 100000
namespace Go.Ab.Fe
open Go Go.Proofs Go.Ab
theorem can_run {x:CS} {k t o:Int} (h:(stF x t).1=1) (h0:0≤o):canF x k t o↔okK x k t o:=by
  unfold canF;rw [h];simp [h0]
theorem can_not {x:CS} {k t o:Int} (h2:(stF x t).1≠2) (h:¬ (stF x t).1=1∨o < 0):¬ canF x k t o:=by
  unfold canF;rintro (⟨h3,-⟩ | ⟨h3,h4,-⟩)
  · exact h2 h3
  · omega
theorem can_wait {x:CS} {k t o:Int} (h2:(stF x t).1=2):canF x k t o↔(k=10∧o=(stF x t).2.1∧fullF x t):=by
  unfold canF;rw [h2];simp
theorem can_th {x:CS} {k t o:Int} (hc:canF x k t o):(stF x t).1≠0:=by
  rcases hc with ⟨h,-⟩ | ⟨h,-⟩ <;> omega
/-- What each kind asks. -/
theorem okK_k {x:CS} {k t o:Int} :
    ((k=1∨k=2)→(okK x k t o↔o < x.va))∧((k=3∨k=4)→(okK x k t o↔o < x.vo))∧(k=5→(okK x k t o↔o < x.lk∧owF x o=none))∧(k=6→(okK x k t o↔o < x.lk∧owF x o=some t)) ∧
    (k=7→(okK x k t o↔o < x.th∧(stF x o).1=0))∧(k=8→(okK x k t o↔o < x.th∧(stF x o).1=3))∧(k=9→(okK x k t o↔o < x.B.length))∧(k=11→(okK x k t o↔o < 1)) ∧
    (k≠1→k≠2→k≠3→k≠4→k≠5→k≠6→k≠7→k≠8→k≠9→k≠11→¬ okK x k t o):=by
  refine ⟨?_,?_,?_,?_,?_,?_,?_,?_,?_⟩
  · rintro (rfl | rfl) <;> simp [okK]
  · rintro (rfl | rfl) <;> simp [okK]
  · rintro rfl;simp [okK]
  · rintro rfl;simp [okK]
  · rintro rfl;simp [okK]
  · rintro rfl;simp [okK]
  · rintro rfl;simp [okK]
  · rintro rfl;simp [okK]
  · intro a1 a2 a3 a4 a5 a6 a7 a8 a9 a11 h
    simp [okK,a1,a2,a3,a4,a5,a6,a7,a8,a9,a11] at h
theorem nxF_k {x:CS} {k t o:Int} (hc:canF x k t o) :
    (k=5→nxF x k t o=⟨x.th,x.va,x.vo,x.lk,x.pa,x.T,x.O.set o.toNat t,x.B,x.n+1⟩) ∧
    (k=6→nxF x k t o=⟨x.th,x.va,x.vo,x.lk,x.pa,x.T,x.O.set o.toNat (-1),x.B,x.n+1⟩) ∧
    (k=7→nxF x k t o=⟨x.th,x.va,x.vo,x.lk,x.pa,x.T.set o.toNat (1,0,0),x.O,x.B,x.n+1⟩) ∧
    (k=9→nxF x k t o=⟨x.th,x.va,x.vo,x.lk,x.pa,x.T.set t.toNat (2,o,(opF x o).1),x.O,x.B.set o.toNat (arrF (opF x o) (x.pa.getD o.toNat 0)),x.n+1⟩) ∧
    (k=10→nxF x k t o=⟨x.th,x.va,x.vo,x.lk,x.pa,x.T.set t.toNat (1,0,0),x.O,x.B,x.n+1⟩) ∧
    (k=11→nxF x k t o=⟨x.th,x.va,x.vo,x.lk,x.pa,x.T.set t.toNat (3,0,0),x.O,x.B,x.n+1⟩) ∧
    (k≠5→k≠6→k≠7→k≠9→k≠10→k≠11→nxF x k t o=⟨x.th,x.va,x.vo,x.lk,x.pa,x.T,x.O,x.B,x.n+1⟩):=by
  rw [show nxF x k t o=nextF x k t o from if_pos hc]
  refine ⟨?_,?_,?_,?_,?_,?_,?_⟩
  · rintro rfl;simp [nextF]
  · rintro rfl;simp [nextF]
  · rintro rfl;simp [nextF]
  · rintro rfl;simp [nextF]
  · rintro rfl;simp [nextF]
  · rintro rfl;simp [nextF]
  · intro a b c d e f;simp [nextF,a,b,c,d,e,f]
theorem stF_set {x:CS} {T':List T3} {th va vo lk:Int} {pa O:List Int} {B:List T2} {n:Int} {t:Int} {s:T3} (h0:0≤t) (h:t.toNat < x.T.length) (hT:T'=x.T.set t.toNat s) (u:Int):stF ⟨th,va,vo,lk,pa,T',O,B,n⟩ u=if u=t then s else stF x u:=by
  subst hT
  unfold stF
  split
  · rename_i h1;rw [if_neg Om]
  · rename_i h1
    show (x.T.set t.toNat s).getD u.toNat _=_
    rw [getD_set h]
    by_cases e:u=t
    · subst e;rw [if_pos rfl,if_pos rfl]
    · rw [if_neg e,if_neg Om]
theorem owV_set {x:CS} {O':List Int} {th va vo lk:Int} {pa:List Int} {T:List T3} {B:List T2} {n:Int} {l:Int} {v:Int} (h0:0≤l) (h:l.toNat < x.O.length) (hO:O'=x.O.set l.toNat v) (u:Int):owV ⟨th,va,vo,lk,pa,T,O',B,n⟩ u=if u=l then v else owV x u:=by
  subst hO
  unfold owV
  split
  · rename_i h1;rw [if_neg Om]
  · rename_i h1
    show (x.O.set l.toNat v).getD u.toNat _=_
    rw [getD_set h]
    by_cases e:u=l
    · subst e;rw [if_pos rfl,if_pos rfl]
    · rw [if_neg e,if_neg Om]
theorem owF_set {x:CS} {O':List Int} {th va vo lk:Int} {pa:List Int} {T:List T3} {B:List T2} {n:Int} {l:Int} {v:Int} (h0:0≤l) (h:l.toNat < x.O.length) (hO:O'=x.O.set l.toNat v) (u:Int):owF ⟨th,va,vo,lk,pa,T,O',B,n⟩ u=if u=l then (if v=-1 then none else some v) else owF x u:=by
  unfold owF
  rw [owV_set h0 h hO]
  by_cases e:u=l
  · rw [if_pos e,if_pos e]
  · rw [if_neg e,if_neg e]
theorem rel_st {x:CS} {Fs:Int→Option T3} {Fo:Int→Option Int} (hR:RelC Fs Fo x) {t:Int} {s:T3} (h0:0≤t) (h:t.toNat < x.T.length) {th va vo lk:Int} {pa:List Int} {B:List T2} {n:Int}:RelC (upd Fs t (some s)) Fo ⟨th,va,vo,lk,pa,x.T.set t.toNat s,x.O,B,n⟩ :=
  ⟨fun u=>by
    rw [stF_set h0 h rfl]
    unfold upd
    split
    · rfl
    · exact hR.st u,fun l=>hR.ow l⟩
theorem rel_ow {x:CS} {Fs:Int→Option T3} {Fo:Int→Option Int} (hR:RelC Fs Fo x) {l v:Int} (h0:0≤l) (h:l.toNat < x.O.length) {th va vo lk:Int} {pa:List Int} {B:List T2} {n:Int}:RelC Fs (upd Fo l (if v=-1 then none else some v)) ⟨th,va,vo,lk,pa,x.T,x.O.set l.toNat v,B,n⟩ :=
  ⟨fun u=>hR.st u,fun u=>by
    rw [owF_set h0 h rfl]
    unfold upd
    split
    · rfl
    · exact hR.ow u⟩
theorem rel_n {x:CS} {Fs:Int→Option T3} {Fo:Int→Option Int} (hR:RelC Fs Fo x) {th va vo lk:Int} {pa:List Int} {B:List T2} {n:Int}:RelC Fs Fo ⟨th,va,vo,lk,pa,x.T,x.O,B,n⟩:=⟨hR.st,hR.ow⟩
theorem can_obj {x:CS} (hx:CInv x) {k t o:Int} (hc:canF x k t o):(k=5∨k=6→0≤o∧o.toNat < x.O.length)∧(k=7→0≤o∧o.toNat < x.T.length∧(stF x o).1=0)∧(k=9→0≤o∧o.toNat < x.B.length∧o.toNat < x.pa.length∧(stF x t).1=1)∧(k=10→(stF x t).1=2∧fullF x t∧o=(stF x t).2.1)∧(k=11→(stF x t).1=1):=by
  have h1:=hx.tl
  have h2:=hx.ol
  have h3:=hx.bl
  obtain ⟨k1,k2,k3,k4,k5,k6,k7,k8,k9⟩:=okK_k (x:=x) (k:=k) (t:=t) (o:=o)
  rcases hc with ⟨a,rfl,c,d⟩ | ⟨a,b,c⟩
  · exact ⟨fun h=>by omega,fun h=>by omega,fun h=>by omega,fun _=>⟨a,d,c⟩,fun h=>by omega⟩
  · refine ⟨?_,?_,?_,?_,fun _=>a⟩
    · rintro (h | h)
      · have:=(k3 h).1 c;omega
      · have:=(k4 h).1 c;omega
    · intro h;have:=(k5 h).1 c;exact ⟨b,by omega,this.2⟩
    · intro h;have:=(k7 h).1 c;exact ⟨b,by omega,by omega,a⟩
    · intro h;exact absurd c (k9 Om Om Om Om Om Om Om Om Om Om)
theorem new_inv {th va vo lk:Int} {pa:List Int} (h:OkS th va vo lk pa):CInv (newF th va vo lk pa):=by
  have h1:=h.th
  have h2:=h.lk
  have key:∀ s∈(newF th va vo lk pa).T,s=(1,0,0)∨s=(0,0,0):=fun s hs=>by
    rcases List.mem_or_eq_of_mem_set hs with h | h
    · exact .inr (List.mem_replicate.1 h).2
    · exact .inl h
  refine ⟨h,by simp [newF];omega,by simp [newF];omega,by simp [newF],?_,?_,?_,Int.le_refl _⟩
  · intro s hs
    rcases key s hs with rfl | rfl <;> simp
  · intro i o p ho hp
    have:o=(0,0):=(List.mem_replicate.1 (List.mem_of_getElem? ho)).2
    subst this
    have:=h.pa p (List.mem_of_getElem? hp)
    simp [newF];omega
  · intro v hv
    exact .inl (List.mem_replicate.1 hv).2
theorem opF_set {x:CS} {b:Int} {q:T2} (hb:b.toNat < x.B.length) {th va vo lk:Int} {pa O:List Int} {T:List T3} {n:Int} (u:Int):opF ⟨th,va,vo,lk,pa,T,O,x.B.set b.toNat q,n⟩ u=if u.toNat=b.toNat then q else opF x u:=by
  unfold opF
  exact getD_set hb
/-- What holds stays. -/
theorem next_inv {x:CS} (hx:CInv x) (k t o:Int):CInv (nxF x k t o):=by
  by_cases hc:canF x k t o
  · obtain ⟨n5,n6,n7,n9,n10,n11,nn⟩:=nxF_k hc
    obtain ⟨o5,o7,o9,o10,o11⟩:=can_obj hx hc
    obtain ⟨t0,t1,t2⟩:=stF_nz (can_th hc)
    have hst:=stF_inv hx t
    have hn:=hx.n0
    have hop:∀ (i:Nat) (o:T2) (p:Int),x.B[i]?=some o→x.pa[i]?=some p→0≤o.1∧o.1≤x.n+1∧0≤o.2∧o.2 < p:=fun i o p h1 h2=>by have:=hx.op i o p h1 h2;omega
    have hstk:∀ (s:T3) (y:CS),y.B=x.B→s∈x.T→0≤s.1∧s.1≤3∧(s.1=2→0≤s.2.1∧s.2.1 < y.B.length∧0≤s.2.2∧s.2.2≤(opF y s.2.1).1)∧(s.1≠2→s.2=(0,0)):=fun s y hy hs=>by
      have:=hx.st s hs
      rw [hy,show opF y s.2.1=opF x s.2.1 by unfold opF;rw [hy]];exact this
    have how:∀ (t':Int) (s:T3),0≤t'→t'.toNat < x.T.length→s.1≠0→∀ {pa:List Int} {B:List T2} {n:Int},∀ v∈x.O,v=-1∨(stF ⟨x.th,x.va,x.vo,x.lk,pa,x.T.set t'.toNat s,x.O,B,n⟩ v).1≠0:=fun t' s h1 h2 h3 pa B n v hv=>by
      rw [stF_set h1 h2 rfl]
      split
      · exact .inr h3
      · exact hx.ow v hv
    by_cases k5:k=5
    · obtain ⟨a,b⟩:=o5 (.inl k5)
      rw [n5 k5]
      refine ⟨hx.sh,hx.tl,by show ((x.O.set _ _).length:Int)=_;rw [List.length_set];exact hx.ol,hx.bl,fun s hs=>hstk s _ J hs,hop,fun v hv=>?_,by show 0≤x.n+1;omega⟩
      rcases List.mem_or_eq_of_mem_set hv with h | rfl
      · exact hx.ow v h
      · exact .inr (can_th (x:=x) hc)
    by_cases k6:k=6
    · obtain ⟨a,b⟩:=o5 (.inr k6)
      rw [n6 k6]
      refine ⟨hx.sh,hx.tl,by show ((x.O.set _ _).length:Int)=_;rw [List.length_set];exact hx.ol,hx.bl,fun s hs=>hstk s _ J hs,hop,fun v hv=>?_,by show 0≤x.n+1;omega⟩
      rcases List.mem_or_eq_of_mem_set hv with h | rfl
      · exact hx.ow v h
      · exact .inl J
    have hsetT:∀ (t':Int) (s:T3),0≤t'→t'.toNat < x.T.length→s.1≠0→(0≤s.1∧s.1≤3∧s.1≠2∧s.2=(0,0))→CInv ⟨x.th,x.va,x.vo,x.lk,x.pa,x.T.set t'.toNat s,x.O,x.B,x.n+1⟩:=fun t' s h1 h2 h3 h4=>by
      refine ⟨hx.sh,by show ((x.T.set _ _).length:Int)=_;rw [List.length_set];exact hx.tl,hx.ol,hx.bl,fun q hq=>?_,hop,how t' s h1 h2 h3,by show 0≤x.n+1;omega⟩
      rcases List.mem_or_eq_of_mem_set hq with h | rfl
      · exact hstk q _ J h
      · exact ⟨h4.1,h4.2.1,fun e=>absurd e h4.2.2.1,fun _=>h4.2.2.2⟩
    by_cases k7:k=7
    · obtain ⟨a,b,c⟩:=o7 k7
      rw [n7 k7]
      exact hsetT o (1,0,0) a b (by decide) (by decide)
    by_cases k10:k=10
    · rw [n10 k10];exact hsetT t (1,0,0) t0 t1 (by decide) (by decide)
    by_cases k11:k=11
    · rw [n11 k11];exact hsetT t (3,0,0) t0 t1 (by decide) (by decide)
    by_cases k9:k=9
    · obtain ⟨a,b,c,d⟩:=o9 k9
      rw [n9 k9]
      have hbo:=opF_at (x:=x) a Om
      obtain ⟨p,hp⟩:=cX c
      rw [getD_some hp]
      have hbp:=hx.op _ _ _ hbo hp
      have hpp:=hx.sh.pa p (List.mem_of_getElem? hp)
      have har:(arrF (opF x o) p).1=(opF x o).1∨(arrF (opF x o) p).1=(opF x o).1+1:=by unfold arrF;split <;> simp
      have har2:0≤(arrF (opF x o) p).2∧(arrF (opF x o) p).2 < p:=by unfold arrF;split <;> simp <;> omega
      refine ⟨hx.sh,by show ((x.T.set _ _).length:Int)=_;rw [List.length_set];exact hx.tl,hx.ol,by show (x.B.set _ _).length=_;rw [List.length_set];exact hx.bl,fun q hq=>?_,fun i q r hi hr=>?_,how t _ t0 t1 (by show (2:Int)≠0;decide),by show 0≤x.n+1;omega⟩
      · rw [opF_set b]
        show _∧_∧(_→_∧q.2.1 < ((x.B.set _ _).length:Int)∧_)∧_
        rw [List.length_set]
        rcases List.mem_or_eq_of_mem_set hq with h | rfl
        · have h1:=hx.st q h
          refine ⟨h1.1,h1.2.1,fun e=>?_,h1.2.2.2⟩
          have h2:=h1.2.2.1 e
          refine ⟨h2.1,h2.2.1,h2.2.2.1,?_⟩
          split
          · rename_i e2
            have:opF x q.2.1=opF x o:=by unfold opF;rw [e2]
            rw [this] at h2;omega
          · exact h2.2.2.2
        · refine ⟨(by decide:(0:Int)≤2),(by decide:(2:Int)≤3),fun _=>⟨a,by show o < _;omega,hbp.1,?_⟩,fun e=>absurd J e⟩
          rw [if_pos rfl];show (opF x o).1≤_;omega
      · have hi':(x.B.set o.toNat (arrF (opF x o) p))[i]?=some q:=hi
        show 0≤q.1∧q.1≤x.n+1∧_
        rw [List.getElem?_set] at hi'
        split at hi'
        · rename_i e;subst e
          cases hi'
          have hr':x.pa[o.toNat]?=some r:=hr
          rw [hp] at hr';cases hr'
          omega
        · exact hop i q r hi' hr
    · rw [nn k5 k6 k7 k9 k10 k11]
      exact ⟨hx.sh,hx.tl,hx.ol,hx.bl,fun s hs=>hstk s _ J hs,hop,hx.ow,by show 0≤x.n+1;omega⟩
  · rw [show nxF x k t o=x from if_neg hc];exact hx
theorem full_spec (pa:Option Addr) (pc b:Nat) (x:CS) (hx:CInv x) (t:Int):Spec Tryz.prog 57 [.pointer (some ⟨b,0,none⟩),.int .i64 t] [ck pa pc b x] (fun (_:Unit)=>.bool (decide (fullF x t))) (fun _=>True) (fun _=>[ck pa pc b x]):=by
 refine kS (n:=31) Tryz.func57 J J J ?_
 intro Γ w0
 simp only [argE,Ca,Na,Zd,Nat.reduceAdd]
 refine qL (qC (.q 0 (.done)) Kr ?_)
 refine qR J J J J (qS (qQ (qL (qL (qC (.q 0 ((.l 1 [] (.done)))) Kr ?_)))))
 refine qK J J J J ?_
 have sp_1:=none_spec pa pc b x
 refine qB J J J J J J κ'56 (sp_1) Ts ?_
 rintro ⟨⟩ -
 try simp only [Ca,Na]
 refine qV (qS (qQ (kN J ?_)))
 refine qH (qQ (qL (cP (A:=ck pa pc b x) Tk ?_)))
 refine ck_open fun m1 m2 Fs Fo oa oc hR=>?_
 refine qC (.q 0 (.q 1 (.q 2 (.q 3 (.q 4 (.q 5 ((.l 6 [] ((.l 7 [] (.done))))))))))) Kr ?_
 refine qK J J J J (qZ J J J J (qG (k:=5) J J J J υ'138 J ζ'134 J ?_))
 refine qP (j:=5) J J J J α'134 Tk Az (by rfl) ?_
 refine qK J J J J (rP (ek:=ekZ) (ev1:=ev3) (F:=Fs) (m:=m1) (k:=t) (0,0,0) J J J J J υ'134 (cD υ'3) ω'133 Tk ?_)
 refine kF 13 J (v':=.agg #[.int .i64 ((stF x t).1),.int .i64 ((stF x t).2.1),.int .i64 ((stF x t).2.2)]) (by rw [hR.st]) ?_
 refine cY J J J ω'133 (zs:=[.int .i64 0,.int .i64 0,.int .i64 0]) J ?_
 intro b5
 refine qV (kR (j:=0) J J J J ζ'133 (us:=[_,_,_]) J J J Tk Az (by first | decide | (simp;done) | omega) ?_)
 simp only [setL,List.set]
 refine qV (qS (qW [0,5] (e':=[(0,_),(5,_)]) J ?_))
 refine qQ (qL (kM J (.q 0 (.q 1 (.q 2 (.q 3 (.q 4 (.q 5 (.q 6 (.q 7 (.q 8 (.q 9 (.q 10 (.q 11 (.q 12 (.q 13 (.q 14 (.q 15 (.q 16 (.q 17 (.done))))))))))))))))))) Kr ?_))
 refine qG (k:=0) J J J J υ'133 J ζ'131 J ?_
 refine qP (j:=0) J J J J α'131 Tk Az (by rfl) ?_
 refine qD J J J J J (cZ _ _ _ _) ?_
 refine qK J J J J ?_
 refine cV 17 J (fun h2=>?_) (fun h2=>?_)
 ·
  have hsi:=(stF_inv hx t).2.2.1 h2
  have hop:=opF_at hsi.1 hsi.2.1
  refine qG (k:=2) J J J J υ'133 J ζ'3 J ?_
  refine qP (j:=2) J J J J α'3 Tk Az (by rfl) ?_
  refine qK J J J J (qZ J J J J (qG (k:=7) J J J J υ'138 J ζ'136 J ?_))
  refine qP (j:=7) J J J J α'136 Tk Az (by rfl) ?_
  refine qG (k:=1) J J J J υ'133 J ζ'3 J ?_
  refine qP (j:=1) J J J J α'3 Tk Az (by rfl) ?_
  refine cK (sz:=1) (k:=(stF x t).2.1.toNat) (enc:=enc2) (xs:=x.B) J J J J J υ'136 ζ'149 hop (by first | rfl | omega) Om Tk ?_
  intro ib26 io26 ha26 hl26 hc26
  refine qG (k:=0) J J J J υ'149 J ζ'3 J ?_
  refine cQ (v:=(.int .i64 ((opF x (stF x t).2.1).1))) (j:=0) (k':=(stF x t).2.1.toNat) (enc:=enc2) (off:=io26) J J J J α'3 ha26 enc2_len hop Tk (by first | rfl | exact (Ad _).symm | omega) (by rfl) ?_
  refine qD J J J J J (sK _ _ _ _) ?_
  refine kL J J J J J (qR J J J J (qS (qW [4] (e':=[(4,_)]) J ?_)))
  refine qQ (qJ (ck_fold (b:=b) x (pa:=pa) (pc:=pc) (m1:=m1) (m2:=m2) (oa:=oa) (oc:=oc) Ts (by rfl) (by rfl) (hR) ?_))
  refine cR J J (()) (by congr 1;first | (rw [decide_eq_decide];simp [fullF,h2];done) | (symm;rw [decide_eq_false_iff_not];simp [fullF,h2])) (by trivial) ?_
  exact Tf
 refine qX J J J J (qX J J J J (qX J J J J (qX J J J J (qX J J J J (qX J J J J (qX J J J J (qX J J J J (qX J J J J ?_))))))))
 refine qX J J J J (qX J J J J (qX J J J J (kD J J J J J (qR J J J J (qS (qW [4] (e':=[(4,_)]) J ?_))))))
 refine qQ (qJ (ck_fold (b:=b) x (pa:=pa) (pc:=pc) (m1:=m1) (m2:=m2) (oa:=oa) (oc:=oc) Ts (by rfl) (by rfl) (hR) ?_))
 refine cR J J (()) (by congr 1;first | (rw [decide_eq_decide];simp [fullF,h2];done) | (symm;rw [decide_eq_false_iff_not];simp [fullF,h2])) (by trivial) ?_
 exact Tf
theorem can_spec (pa:Option Addr) (pc b:Nat) (x:CS) (hx:CInv x) (k t o:Int):Spec Tryz.prog 24 [.pointer (some ⟨b,0,none⟩),.agg #[.int .i64 k,.int .i64 t,.int .i64 o]] [ck pa pc b x] (fun (_:Unit)=>.bool (decide (canF x k t o))) (fun _=>True) (fun _=>[ck pa pc b x]):=by
 refine kS (n:=139) Tryz.func24 J J J ?_
 intro Γ w0
 simp only [argE,Ca,Na,Zd,Nat.reduceAdd]
 refine qL (qC ((.l 0 [] (.q 1 (.done)))) Kr ?_)
 refine sG J J J J (us:=[_,_,_]) J ?_
 intro b3
 refine qV (qR J J J J (qS (qQ (qL (qL (qC (.q 0 ((.l 1 [] (.done)))) Kr ?_))))))
 refine qK J J J J ?_
 have sp_1:=none_spec pa pc b x
 refine qB J J J J J J κ'56 (sp_1) Ts ?_
 rintro ⟨⟩ -
 try simp only [Ca,Na]
 refine qV (qS (qQ (kN J ?_)))
 refine qH (qQ (qL (cP (A:=ck pa pc b x) Tk ?_)))
 refine ck_open fun m1 m2 Fs Fo oa oc hR=>?_
 refine kM J (.q 0 (.q 1 (.q 2 (.q 3 (.q 4 (.q 5 (.q 6 ((.l 7 [3,5,6] ((.l 8 [] (.done)))))))))))) Kr ?_
 refine qK J J J J (qZ J J J J (qG (k:=5) J J J J υ'138 J ζ'134 J ?_))
 refine qP (j:=5) J J J J α'134 Tk Az (by rfl) ?_
 refine qG (k:=1) J J J J υ'52 J ζ'3 J ?_
 refine qP (j:=1) J J J J α'3 Tk Az (by rfl) ?_
 refine rP (ek:=ekZ) (ev1:=ev3) (F:=Fs) (m:=m1) (k:=t) (0,0,0) J J J J J υ'134 (cD υ'3) ω'133 Tk ?_
 refine kF 18 J (v':=.agg #[.int .i64 ((stF x t).1),.int .i64 ((stF x t).2.1),.int .i64 ((stF x t).2.2)]) (by rw [hR.st]) ?_
 refine cY J J J ω'133 (zs:=[.int .i64 0,.int .i64 0,.int .i64 0]) J ?_
 intro b5
 refine qM (q:=5) J J J α'134 Tk Az (by rfl) ?_
 refine qM (q:=1) J J J α'3 Tk Az (by rfl) ?_
 refine ag_lookup1 (ek:=ekZ) (ev1:=ev3) (F:=Fs) (m:=m1) (k:=t) (0,0,0) J J (by first | rfl | (rw [hR.st])) J J υ'134 (cD υ'3) ω'133 Tk ?_
 refine qV (kR (j:=0) J J J J ζ'133 (us:=[_,_,_]) J J J Tk Az (by first | decide | (simp;done) | omega) ?_)
 simp only [setL,List.set]
 refine qV (qS (qW [0,3,5] (e':=[(0,_),(3,_),(5,_)]) J ?_))
 refine qQ (qL (qL (qC (.q 0 (.q 1 (.q 2 (.done)))) Kr ?_)))
 refine qG (k:=0) J J J J υ'133 J ζ'131 J ?_
 refine qP (j:=0) J J J J α'131 Tk Az (by rfl) ?_
 refine qD J J J J J (cZ _ _ _ _) ?_
 refine qS (qQ ?_)
 refine qF J (fun h2=>?_) (fun h2=>?_)
 ·
  refine qL (qC (.q 0 (.q 1 (.q 2 (.q 3 (.q 4 (.q 5 (.q 6 (.q 7 (.q 8 (.q 9 (.q 10 (.q 11 (.q 12 (.q 13 ((.l 14 [] (.q 15 (.q 16 (.done))))))))))))))))))) Kr ?_)
  refine qG (k:=0) J J J J υ'52 J ζ'50 J ?_
  refine qP (j:=0) J J J J α'50 Tk Az (by rfl) ?_
  refine qD J J J J J (cZ _ _ _ _) ?_
  refine qK J J J J ?_
  refine cV 25 J (fun h10=>?_) (fun h10=>?_)
  ·
   refine qG (k:=2) J J J J υ'52 J ζ'3 J ?_
   refine qP (j:=2) J J J J α'3 Tk Az (by rfl) ?_
   refine qG (k:=1) J J J J υ'133 J ζ'3 J ?_
   refine qP (j:=1) J J J J α'3 Tk Az (by rfl) ?_
   refine qD J J J J J (cZ _ _ _ _) ?_
   refine kL J J J J J (qK J J J J ?_)
   refine cV 32 J (fun hob=>?_) (fun hob=>?_)
   ·
    refine qK J J J J (qG (k:=1) J J J J υ'52 J ζ'3 J ?_)
    refine qP (j:=1) J J J J α'3 Tk Az (by rfl) ?_
    refine ck_fold (b:=b) x (pa:=pa) (pc:=pc) (m1:=m1) (m2:=m2) (oa:=oa) (oc:=oc) Ts (by rfl) (by rfl) (hR) ?_
    have sp_2:=full_spec pa pc b x hx t
    refine qB J J J J J J Tryz.call57 (sp_2) Ts ?_
    rintro ⟨⟩ -
    try simp only [Ca,Na]
    refine qV (cP (A:=ck pa pc b x) Tk ?_)
    refine ck_open fun m1 m2 Fs Fo oa oc hR=>?_
    refine kL J J J J J (qR J J J J (qS (qW [4] (e':=[(4,_)]) J ?_)))
    refine qQ (qJ (qN (ck_fold (b:=b) x (pa:=pa) (pc:=pc) (m1:=m1) (m2:=m2) (oa:=oa) (oc:=oc) Ts (by rfl) (by rfl) (hR) ?_)))
    refine cR J J (()) (by congr 1;first | (rw [decide_eq_decide,can_wait h2];simp_all;done) | (symm;rw [decide_eq_false_iff_not,can_wait h2];simp_all)) (by trivial) ?_
    exact Tf
   refine qX J J J J (qX J J J J (qX J J J J (rW J J J J ?_)))
   refine kD J J J J J (qR J J J J (qS (qW [4] (e':=[(4,_)]) J ?_)))
   refine qQ (qJ (qN (ck_fold (b:=b) x (pa:=pa) (pc:=pc) (m1:=m1) (m2:=m2) (oa:=oa) (oc:=oc) Ts (by rfl) (by rfl) (hR) ?_)))
   refine cR J J (()) (by congr 1;first | (rw [decide_eq_decide,can_wait h2];simp_all;done) | (symm;rw [decide_eq_false_iff_not,can_wait h2];simp_all)) (by trivial) ?_
   exact Tf
  refine qX J J J J (qX J J J J (qX J J J J (qX J J J J (qX J J J J (kD J J J J J (qK J J J J (qX J J J J (qX J J J J ?_))))))))
  refine qX J J J J (rW J J J J ?_)
  refine kD J J J J J (qR J J J J (qS (qW [4] (e':=[(4,_)]) J ?_)))
  refine qQ (qJ (qN (ck_fold (b:=b) x (pa:=pa) (pc:=pc) (m1:=m1) (m2:=m2) (oa:=oa) (oc:=oc) Ts (by rfl) (by rfl) (hR) ?_)))
  refine cR J J (()) (by congr 1;first | (rw [decide_eq_decide,can_wait h2];simp_all;done) | (symm;rw [decide_eq_false_iff_not,can_wait h2];simp_all)) (by trivial) ?_
  exact Tf
 refine qH (qQ (qL (qL (qC (.q 0 (.q 1 (.q 2 (.q 3 (.q 4 (.q 5 (.q 6 (.q 7 (.done))))))))) Kr ?_))))
 refine qG (k:=0) J J J J υ'133 J ζ'131 J ?_
 refine qP (j:=0) J J J J α'131 Tk Az (by rfl) ?_
 refine qD J J J J J (b_neq _ _ _ _) ?_
 refine qK J J J J ?_
 refine cV 41 J (fun h3=>?_) (fun h3=>?_)
 ·
  refine qX J J J J (qX J J J J (qX J J J J (kL J J J J J (qS (qW [0,3,45] (e':=[(0,_),(3,_),(45,_)]) J ?_)))))
  refine qQ (cC J ?_)
  refine qL (qC (.q 0 (.done)) Kr ?_)
  refine qR J J J J (qS (qQ (qJ (qN (ck_fold (b:=b) x (pa:=pa) (pc:=pc) (m1:=m1) (m2:=m2) (oa:=oa) (oc:=oc) Ts (by rfl) (by rfl) (hR) ?_)))))
  refine cR J J (()) (by congr 1;symm;rw [decide_eq_false_iff_not];exact can_not h2 (by first | omega | (simp at h1;omega))) (by trivial) ?_
  exact Tf
 refine qG (k:=2) J J J J υ'52 J ζ'3 J ?_
 refine qP (j:=2) J J J J α'3 Tk Az (by rfl) ?_
 refine qD J J J J J (sK _ _ _ _) ?_
 refine kD J J J J J (qS (qW [0,3,45] (e':=[(0,_),(3,_),(45,_)]) J ?_))
 refine qQ ?_
 refine qF J (fun h1=>?_) (fun h1=>?_)
 ·
  refine qL (qC (.q 0 (.done)) Kr ?_)
  refine qR J J J J (qS (qQ (qJ (qN (ck_fold (b:=b) x (pa:=pa) (pc:=pc) (m1:=m1) (m2:=m2) (oa:=oa) (oc:=oc) Ts (by rfl) (by rfl) (hR) ?_)))))
  refine cR J J (()) (by congr 1;symm;rw [decide_eq_false_iff_not];exact can_not h2 (by first | omega | (simp at h1;omega))) (by trivial) ?_
  exact Tf
 have h1:(stF x t).1=1∧0≤o:=by first | omega | (simp at h1;omega)
 refine qH (qQ (qL (kM J (.q 0 (.q 1 (.q 2 (.q 3 (.q 4 (.q 5 (.q 6 (.q 7 (.q 8 (.q 9 (.q 10 (.q 11 (.done))))))))))))) Kr ?_)))
 refine qK J J J J (qZ J J J J (qG (k:=6) J J J J υ'138 J ζ'135 J ?_))
 refine qP (j:=6) J J J J α'135 Tk Az (by rfl) ?_
 refine qG (k:=2) J J J J υ'52 J ζ'3 J ?_
 refine qP (j:=2) J J J J α'3 Tk Az (by rfl) ?_
 refine q_lookup2 (ek:=ekZ) (ev1:=ekZ) (F:=Fo) (m:=m2) (k:=o) 0 J J J J J υ'135 (cD υ'3) ω'3 Tk ?_
 refine kF 53 J (v':=.tuple #[.int .i64 ((owF x o).getD 0),.bool ((owF x o).isSome)]) (by rw [hR.ow]) ?_
 refine qK J J J J (kX J J J J J (kX J J J J J (qR J J J J (qR J J J J (qS (qW [0,3,6,7] (e':=[(0,_),(3,_),(6,_),(7,_)]) J ?_))))))
 refine qQ (qL (kM J (.q 0 (.q 1 (.q 2 (.q 3 (.q 4 (.q 5 (.q 6 ((.l 7 [3,5,6] ((.l 8 [] (.done)))))))))))) Kr ?_))
 refine qK J J J J (qZ J J J J (qG (k:=5) J J J J υ'138 J ζ'134 J ?_))
 refine qP (j:=5) J J J J α'134 Tk Az (by rfl) ?_
 refine qG (k:=2) J J J J υ'52 J ζ'3 J ?_
 refine qP (j:=2) J J J J α'3 Tk Az (by rfl) ?_
 refine rP (ek:=ekZ) (ev1:=ev3) (F:=Fs) (m:=m1) (k:=o) (0,0,0) J J J J J υ'134 (cD υ'3) ω'133 Tk ?_
 refine kF 62 J (v':=.agg #[.int .i64 ((stF x o).1),.int .i64 ((stF x o).2.1),.int .i64 ((stF x o).2.2)]) (by rw [hR.st]) ?_
 refine cY J J J ω'133 (zs:=[.int .i64 0,.int .i64 0,.int .i64 0]) J ?_
 intro b8
 refine qM (q:=5) J J J α'134 Tk Az (by rfl) ?_
 refine qM (q:=2) J J J α'3 Tk Az (by rfl) ?_
 refine ag_lookup1 (ek:=ekZ) (ev1:=ev3) (F:=Fs) (m:=m1) (k:=o) (0,0,0) J J (by first | rfl | (rw [hR.st])) J J υ'134 (cD υ'3) ω'133 Tk ?_
 refine qV (kR (j:=0) J J J J ζ'133 (us:=[_,_,_]) J J J Tk Az (by first | decide | (simp;done) | omega) ?_)
 simp only [setL,List.set]
 refine qV (qS (qW [0,3,6,7,8] (e':=[(0,_),(3,_),(6,_),(7,_),(8,_)]) J ?_))
 refine qQ (qL (qC (.q 0 (.done)) Kr ?_))
 refine qR J J J J (qS (qQ (qL (qL (qC (.q 0 (.q 1 (.done))) Kr ?_)))))
 refine qG (k:=0) J J J J υ'52 J ζ'50 J ?_
 refine qP (j:=0) J J J J α'50 Tk Az (by rfl) ?_
 refine qS (qQ (kV (qL (kV (qL (kV (qL (kV ?_))))))))
 refine qL (kV (qL (kV (qL (kV (qL (kV (kV ?_))))))))
 refine qL (kV (kV (qL (qL (qL (qC (.q 0 (.q 1 (.done))) Kr ?_))))))
 refine qD J J J J J (cZ _ _ _ _) ?_
 refine qR J J J J (qS (qQ ?_))
 refine qF J (fun k2=>?_) (fun k2=>?_)
 ·
  refine cS (qY (qY (kK (kG (qQ (qL (qC (.q 0 (.q 1 (.q 2 (.q 3 (.q 4 (.q 5 (.done))))))) Kr ?_)))))))
  refine qK J J J J (qZ J J J J (qG (k:=0) J J J J υ'138 J ζ'24 J ?_))
  refine qG (k:=1) J J J J υ'24 J ζ'3 J ?_
  refine qP (j:=1) J J J J α'3 Tk Az (by rfl) ?_
  refine qR J J J J (qS (qW [3,9] (e':=[(3,_),(9,_)]) J ?_))
  refine qQ (cS (kP J ?_))
  refine kP J ?_
  refine qY (kP J ?_)
  refine qY (kP J ?_)
  refine qY (kP J ?_)
  refine qY (kP J ?_)
  refine qY (kP J ?_)
  refine qY (kP J ?_)
  refine qY (kK (qQ (qL (qC (.q 0 (.q 1 (.q 2 (.q 3 (.q 4 (.done)))))) Kr ?_))))
  refine qG (k:=2) J J J J υ'52 J ζ'3 J ?_
  refine qP (j:=2) J J J J α'3 Tk Az (by rfl) ?_
  refine qK J J J J (qD J J J J J (sK _ _ _ _) ?_)
  refine qR J J J J (qS (qW [4] (e':=[(4,_)]) J ?_))
  refine qQ (qJ (ck_fold (b:=b) x (pa:=pa) (pc:=pc) (m1:=m1) (m2:=m2) (oa:=oa) (oc:=oc) Ts (by rfl) (by rfl) (hR) ?_))
  refine cR J J (()) (by congr 1;rw [decide_eq_decide,can_run h1.1 h1.2,okK_k.1 (.inr k2)];try rfl) (by trivial) ?_
  exact Tf
 refine qH (qQ (qL (qL (qC (.q 0 (.q 1 (.done))) Kr ?_))))
 refine qD J J J J J (cZ _ _ _ _) ?_
 refine qR J J J J (qS (qW [0,3,6,7,8,9,64,67] (e':=[(0,_),(3,_),(6,_),(7,_),(8,_),(9,_),(64,_),(67,_)]) J ?_))
 refine qQ ?_
 refine qF J (fun k1=>?_) (fun k1=>?_)
 ·
  refine cS (qY (qY (kP J ?_)))
  refine kK (qQ (qL (qC (.q 0 (.q 1 (.q 2 (.q 3 (.q 4 (.q 5 (.done))))))) Kr ?_)))
  refine qK J J J J (qZ J J J J (qG (k:=0) J J J J υ'138 J ζ'24 J ?_))
  refine qG (k:=1) J J J J υ'24 J ζ'3 J ?_
  refine qP (j:=1) J J J J α'3 Tk Az (by rfl) ?_
  refine qR J J J J (qS (qW [3,9] (e':=[(3,_),(9,_)]) J ?_))
  refine qQ (cS (kP J ?_))
  refine kP J ?_
  refine qY (kP J ?_)
  refine qY (kP J ?_)
  refine qY (kP J ?_)
  refine qY (kP J ?_)
  refine qY (kP J ?_)
  refine qY (kP J ?_)
  refine qY (kK (qQ (qL (qC (.q 0 (.q 1 (.q 2 (.q 3 (.q 4 (.done)))))) Kr ?_))))
  refine qG (k:=2) J J J J υ'52 J ζ'3 J ?_
  refine qP (j:=2) J J J J α'3 Tk Az (by rfl) ?_
  refine qK J J J J (qD J J J J J (sK _ _ _ _) ?_)
  refine qR J J J J (qS (qW [4] (e':=[(4,_)]) J ?_))
  refine qQ (qJ (ck_fold (b:=b) x (pa:=pa) (pc:=pc) (m1:=m1) (m2:=m2) (oa:=oa) (oc:=oc) Ts (by rfl) (by rfl) (hR) ?_))
  refine cR J J (()) (by congr 1;rw [decide_eq_decide,can_run h1.1 h1.2,okK_k.1 (.inl k1)];try rfl) (by trivial) ?_
  exact Tf
 refine qH (qQ (qL (qL (qC (.q 0 (.q 1 (.done))) Kr ?_))))
 refine qD J J J J J (cZ _ _ _ _) ?_
 refine qR J J J J (qS (qQ ?_))
 refine qF J (fun k4=>?_) (fun k4=>?_)
 ·
  refine cS (qY (qY (kP J ?_)))
  refine kP J ?_
  refine qY (kK (kG (qQ (qL (qC (.q 0 (.q 1 (.q 2 (.q 3 (.q 4 (.q 5 (.done))))))) Kr ?_)))))
  refine qK J J J J (qZ J J J J (qG (k:=0) J J J J υ'138 J ζ'24 J ?_))
  refine qG (k:=2) J J J J υ'24 J ζ'3 J ?_
  refine qP (j:=2) J J J J α'3 Tk Az (by rfl) ?_
  refine qR J J J J (qS (qW [3,9] (e':=[(3,_),(9,_)]) J ?_))
  refine qQ (cS (kP J ?_))
  refine qY (kP J ?_)
  refine qY (kP J ?_)
  refine qY (kP J ?_)
  refine qY (kP J ?_)
  refine qY (kP J ?_)
  refine qY (kK (qQ (qL (qC (.q 0 (.q 1 (.q 2 (.q 3 (.q 4 (.done)))))) Kr ?_))))
  refine qG (k:=2) J J J J υ'52 J ζ'3 J ?_
  refine qP (j:=2) J J J J α'3 Tk Az (by rfl) ?_
  refine qK J J J J (qD J J J J J (sK _ _ _ _) ?_)
  refine qR J J J J (qS (qW [4] (e':=[(4,_)]) J ?_))
  refine qQ (qJ (ck_fold (b:=b) x (pa:=pa) (pc:=pc) (m1:=m1) (m2:=m2) (oa:=oa) (oc:=oc) Ts (by rfl) (by rfl) (hR) ?_))
  refine cR J J (()) (by congr 1;rw [decide_eq_decide,can_run h1.1 h1.2,okK_k.2.1 (.inr k4)];try rfl) (by trivial) ?_
  exact Tf
 refine qH (qQ (qL (qL (qC (.q 0 (.q 1 (.done))) Kr ?_))))
 refine qD J J J J J (cZ _ _ _ _) ?_
 refine qR J J J J (qS (qW [0,3,6,7,8,9,64,71] (e':=[(0,_),(3,_),(6,_),(7,_),(8,_),(9,_),(64,_),(71,_)]) J ?_))
 refine qQ ?_
 refine qF J (fun k3=>?_) (fun k3=>?_)
 ·
  refine cS (qY (qY (kP J ?_)))
  refine kP J ?_
  refine qY (kP J ?_)
  refine kK (qQ (qL (qC (.q 0 (.q 1 (.q 2 (.q 3 (.q 4 (.q 5 (.done))))))) Kr ?_)))
  refine qK J J J J (qZ J J J J (qG (k:=0) J J J J υ'138 J ζ'24 J ?_))
  refine qG (k:=2) J J J J υ'24 J ζ'3 J ?_
  refine qP (j:=2) J J J J α'3 Tk Az (by rfl) ?_
  refine qR J J J J (qS (qW [3,9] (e':=[(3,_),(9,_)]) J ?_))
  refine qQ (cS (kP J ?_))
  refine qY (kP J ?_)
  refine qY (kP J ?_)
  refine qY (kP J ?_)
  refine qY (kP J ?_)
  refine qY (kP J ?_)
  refine qY (kK (qQ (qL (qC (.q 0 (.q 1 (.q 2 (.q 3 (.q 4 (.done)))))) Kr ?_))))
  refine qG (k:=2) J J J J υ'52 J ζ'3 J ?_
  refine qP (j:=2) J J J J α'3 Tk Az (by rfl) ?_
  refine qK J J J J (qD J J J J J (sK _ _ _ _) ?_)
  refine qR J J J J (qS (qW [4] (e':=[(4,_)]) J ?_))
  refine qQ (qJ (ck_fold (b:=b) x (pa:=pa) (pc:=pc) (m1:=m1) (m2:=m2) (oa:=oa) (oc:=oc) Ts (by rfl) (by rfl) (hR) ?_))
  refine cR J J (()) (by congr 1;rw [decide_eq_decide,can_run h1.1 h1.2,okK_k.2.1 (.inl k3)];try rfl) (by trivial) ?_
  exact Tf
 refine qH (qQ (qL (qL (qC (.q 0 (.q 1 (.done))) Kr ?_))))
 refine qD J J J J J (cZ _ _ _ _) ?_
 refine qR J J J J (qS (qQ ?_))
 refine qF J (fun k6=>?_) (fun k6=>?_)
 ·
  refine cS (qY (qY (kP J ?_)))
  refine kP J ?_
  refine qY (kP J ?_)
  refine kP J ?_
  refine qY (kK (qQ (qL (qL (qL (qC (.q 0 (.q 1 (.q 2 (.q 3 (.q 4 (.q 5 (.q 6 (.q 7 (.done))))))))) Kr ?_))))))
  refine qK J J J J (rK J J J J ?_)
  refine qK J J J J ?_
  refine s_bool 97 J (fun hh=>?_) (fun hh=>?_)
  ·
   try simp only [Bool.and_eq_true,Bool.or_eq_true,Bool.not_eq_true',Bool.not_eq_false',Bool.and_eq_false_iff,Bool.or_eq_false_iff,decide_eq_true_eq,decide_eq_false_iff_not] at hh
   have hw:owF x o=none:=by simpa using hh
   refine qX J J J J (qX J J J J (qX J J J J (qX J J J J (kL J J J J J (qS (qW [0,3,102] (e':=[(0,_),(3,_),(102,_)]) J ?_))))))
   refine qQ (cC J ?_)
   refine qL (qC (.q 0 (.done)) Kr ?_)
   refine qR J J J J (qS (qQ (qJ (qN (qN (kH (qN (kH ?_))))))))
   refine qN (kH (qN (kH (qN (kH (qN (kH (qN ?_))))))))
   refine ck_fold (b:=b) x (pa:=pa) (pc:=pc) (m1:=m1) (m2:=m2) (oa:=oa) (oc:=oc) Ts (by rfl) (by rfl) (hR) ?_
   refine cR J J (()) (by congr 1;symm;rw [decide_eq_false_iff_not,can_run h1.1 h1.2,okK_k.2.2.2.1 (k6)];rw [hw];rintro ⟨-,h⟩;cases h) (by trivial) ?_
   exact Tf
  try simp only [Bool.and_eq_true,Bool.or_eq_true,Bool.not_eq_true',Bool.not_eq_false',Bool.and_eq_false_iff,Bool.or_eq_false_iff,decide_eq_true_eq,decide_eq_false_iff_not] at hh
  obtain ⟨v,hw⟩:∃ v,owF x o=some v:=Option.isSome_iff_exists.1 (by simpa using hh)
  refine qK J J J J (qG (k:=1) J J J J υ'52 J ζ'3 J ?_)
  refine qP (j:=1) J J J J α'3 Tk Az (by rfl) ?_
  refine qD J J J J J (b_neq _ _ _ _) ?_
  refine kD J J J J J (qS (qW [0,3,102] (e':=[(0,_),(3,_),(102,_)]) J ?_))
  refine qQ ?_
  refine qF J (fun hv=>?_) (fun hv=>?_)
  ·
   refine qL (qC (.q 0 (.done)) Kr ?_)
   refine qR J J J J (qS (qQ (qJ (qN (qN (kH (qN (kH ?_))))))))
   refine qN (kH (qN (kH (qN (kH (qN (kH (qN ?_))))))))
   refine ck_fold (b:=b) x (pa:=pa) (pc:=pc) (m1:=m1) (m2:=m2) (oa:=oa) (oc:=oc) Ts (by rfl) (by rfl) (hR) ?_
   refine cR J J (()) (by congr 1;symm;rw [decide_eq_false_iff_not,can_run h1.1 h1.2,okK_k.2.2.2.1 (k6)];rw [hw] at hv ⊢;rintro ⟨-,h⟩;cases h;exact hv rfl) (by trivial) ?_
   exact Tf
  refine qH (qQ (qC (.q 0 (.q 1 (.q 2 (.q 3 (.q 4 (.q 5 (.done))))))) Kr ?_))
  refine qK J J J J (qZ J J J J (qG (k:=0) J J J J υ'138 J ζ'24 J ?_))
  refine qG (k:=3) J J J J υ'24 J ζ'3 J ?_
  refine qP (j:=3) J J J J α'3 Tk Az (by rfl) ?_
  refine qR J J J J (qS (qW [3,9] (e':=[(3,_),(9,_)]) J ?_))
  refine qQ (cS (kP J ?_))
  refine qY (kP J ?_)
  refine qY (kP J ?_)
  refine qY (kP J ?_)
  refine qY (kP J ?_)
  refine qY (kK (qQ (qL (qC (.q 0 (.q 1 (.q 2 (.q 3 (.q 4 (.done)))))) Kr ?_))))
  refine qG (k:=2) J J J J υ'52 J ζ'3 J ?_
  refine qP (j:=2) J J J J α'3 Tk Az (by rfl) ?_
  refine qK J J J J (qD J J J J J (sK _ _ _ _) ?_)
  refine qR J J J J (qS (qW [4] (e':=[(4,_)]) J ?_))
  refine qQ (qJ (ck_fold (b:=b) x (pa:=pa) (pc:=pc) (m1:=m1) (m2:=m2) (oa:=oa) (oc:=oc) Ts (by rfl) (by rfl) (hR) ?_))
  refine cR J J (()) (by congr 1;rw [decide_eq_decide,can_run h1.1 h1.2,okK_k.2.2.2.1 (k6)];rw [hw] at hv ⊢;have hv2:v=t:=Classical.byContradiction hv;exact ⟨fun h=>⟨h,by rw [hv2]⟩,fun h=>h.1⟩) (by trivial) ?_
  exact Tf
 refine qH (qQ (qL (qL (qC (.q 0 (.q 1 (.done))) Kr ?_))))
 refine qD J J J J J (cZ _ _ _ _) ?_
 refine qR J J J J (qS (qW [0,3,7,8,9,64,75] (e':=[(0,_),(3,_),(7,_),(8,_),(9,_),(64,_),(75,_)]) J ?_))
 refine qQ ?_
 refine qF J (fun k5=>?_) (fun k5=>?_)
 ·
  refine cS (qY (qY (kP J ?_)))
  refine kP J ?_
  refine qY (kP J ?_)
  refine kP J ?_
  refine qY (kP J ?_)
  refine qY (kK (qQ (qL (qL (qL (qC (.q 0 (.done)) Kr ?_))))))
  refine qK J J J J (qS (qW [0,3,108] (e':=[(0,_),(3,_),(108,_)]) J ?_))
  refine qQ ?_
  refine c_cond J (fun hh=>?_) (fun hh=>?_)
  ·
   try simp only [Bool.and_eq_true,Bool.or_eq_true,Bool.not_eq_true',Bool.not_eq_false',Bool.and_eq_false_iff,Bool.or_eq_false_iff,decide_eq_true_eq,decide_eq_false_iff_not] at hh
   obtain ⟨v,hw⟩:∃ v,owF x o=some v:=Option.isSome_iff_exists.1 (by simpa using hh)
   refine qL (qC (.q 0 (.done)) Kr ?_)
   refine qR J J J J (qS (qQ (qJ (qN (qN (kH (qN (kH ?_))))))))
   refine qN (kH (qN (kH (qN (kH (qN (ck_fold (b:=b) x (pa:=pa) (pc:=pc) (m1:=m1) (m2:=m2) (oa:=oa) (oc:=oc) Ts (by rfl) (by rfl) (hR) ?_)))))))
   refine cR J J (()) (by congr 1;symm;rw [decide_eq_false_iff_not,can_run h1.1 h1.2,okK_k.2.2.1 (k5)];rw [hw];rintro ⟨-,h⟩;cases h) (by trivial) ?_
   exact Tf
  try simp only [Bool.and_eq_true,Bool.or_eq_true,Bool.not_eq_true',Bool.not_eq_false',Bool.and_eq_false_iff,Bool.or_eq_false_iff,decide_eq_true_eq,decide_eq_false_iff_not] at hh
  have hw:owF x o=none:=by simpa using hh
  refine qH (qQ (qC (.q 0 (.q 1 (.q 2 (.q 3 (.q 4 (.q 5 (.done))))))) Kr ?_))
  refine qK J J J J (qZ J J J J (qG (k:=0) J J J J υ'138 J ζ'24 J ?_))
  refine qG (k:=3) J J J J υ'24 J ζ'3 J ?_
  refine qP (j:=3) J J J J α'3 Tk Az (by rfl) ?_
  refine qR J J J J (qS (qW [3,9] (e':=[(3,_),(9,_)]) J ?_))
  refine qQ (cS (kP J ?_))
  refine qY (kP J ?_)
  refine qY (kP J ?_)
  refine qY (kP J ?_)
  refine qY (kK (qQ (qL (qC (.q 0 (.q 1 (.q 2 (.q 3 (.q 4 (.done)))))) Kr ?_))))
  refine qG (k:=2) J J J J υ'52 J ζ'3 J ?_
  refine qP (j:=2) J J J J α'3 Tk Az (by rfl) ?_
  refine qK J J J J (qD J J J J J (sK _ _ _ _) ?_)
  refine qR J J J J (qS (qW [4] (e':=[(4,_)]) J ?_))
  refine qQ (qJ (ck_fold (b:=b) x (pa:=pa) (pc:=pc) (m1:=m1) (m2:=m2) (oa:=oa) (oc:=oc) Ts (by rfl) (by rfl) (hR) ?_))
  refine cR J J (()) (by congr 1;rw [decide_eq_decide,can_run h1.1 h1.2,okK_k.2.2.1 (k5)];exact ⟨fun h=>⟨h,hw⟩,fun h=>h.1⟩) (by trivial) ?_
  exact Tf
 refine qH (qQ (qL (qL (qC (.q 0 (.q 1 (.done))) Kr ?_))))
 refine qD J J J J J (cZ _ _ _ _) ?_
 refine qR J J J J (qS (qQ ?_))
 refine qF J (fun k7=>?_) (fun k7=>?_)
 ·
  refine cS (qY (qY (kP J ?_)))
  refine kP J ?_
  refine qY (kP J ?_)
  refine kP J ?_
  refine qY (kP J ?_)
  refine qY (kP J ?_)
  refine qY (kK (qQ (qL (qL (qL (qC (.q 0 (.q 1 (.q 2 (.done)))) Kr ?_))))))
  refine qG (k:=0) J J J J υ'133 J ζ'131 J ?_
  refine qP (j:=0) J J J J α'131 Tk Az (by rfl) ?_
  refine qD J J J J J (b_neq _ _ _ _) ?_
  refine qS (qW [0,3,116] (e':=[(0,_),(3,_),(116,_)]) J ?_)
  refine qQ ?_
  refine qF J (fun hp=>?_) (fun hp=>?_)
  ·
   refine qL (qC (.q 0 (.done)) Kr ?_)
   refine qR J J J J (qS (qQ (qJ (qN (qN (kH (qN (kH ?_))))))))
   refine qN (kH (qN (kH (qN (ck_fold (b:=b) x (pa:=pa) (pc:=pc) (m1:=m1) (m2:=m2) (oa:=oa) (oc:=oc) Ts (by rfl) (by rfl) (hR) ?_)))))
   refine cR J J (()) (by congr 1;symm;rw [decide_eq_false_iff_not,can_run h1.1 h1.2,okK_k.2.2.2.2.1 (k7)];rintro ⟨-,h⟩;exact hp h) (by trivial) ?_
   exact Tf
  refine qH (qQ (qC (.q 0 (.q 1 (.q 2 (.q 3 (.q 4 (.q 5 (.done))))))) Kr ?_))
  refine qK J J J J (qZ J J J J (qG (k:=0) J J J J υ'138 J ζ'24 J ?_))
  refine qG (k:=0) J J J J υ'24 J ζ'3 J ?_
  refine qP (j:=0) J J J J α'3 Tk Az (by rfl) ?_
  refine qR J J J J (qS (qW [3,9] (e':=[(3,_),(9,_)]) J ?_))
  refine qQ (cS (kP J ?_))
  refine qY (kP J ?_)
  refine qY (kP J ?_)
  refine qY (kK (qQ (qL (qC (.q 0 (.q 1 (.q 2 (.q 3 (.q 4 (.done)))))) Kr ?_))))
  refine qG (k:=2) J J J J υ'52 J ζ'3 J ?_
  refine qP (j:=2) J J J J α'3 Tk Az (by rfl) ?_
  refine qK J J J J (qD J J J J J (sK _ _ _ _) ?_)
  refine qR J J J J (qS (qW [4] (e':=[(4,_)]) J ?_))
  refine qQ (qJ (ck_fold (b:=b) x (pa:=pa) (pc:=pc) (m1:=m1) (m2:=m2) (oa:=oa) (oc:=oc) Ts (by rfl) (by rfl) (hR) ?_))
  refine cR J J (()) (by congr 1;rw [decide_eq_decide,can_run h1.1 h1.2,okK_k.2.2.2.2.1 (k7)];exact ⟨fun h=>⟨h,Classical.byContradiction hp⟩,fun h=>h.1⟩) (by trivial) ?_
  exact Tf
 refine qH (qQ (qL (qL (qC (.q 0 (.q 1 (.done))) Kr ?_))))
 refine qD J J J J J (cZ _ _ _ _) ?_
 refine qR J J J J (qS (qW [0,3,8,9,64,79] (e':=[(0,_),(3,_),(8,_),(9,_),(64,_),(79,_)]) J ?_))
 refine qQ ?_
 refine qF J (fun k8=>?_) (fun k8=>?_)
 ·
  refine cS (qY (qY (kP J ?_)))
  refine kP J ?_
  refine qY (kP J ?_)
  refine kP J ?_
  refine qY (kP J ?_)
  refine qY (kP J ?_)
  refine qY (kP J ?_)
  refine qY (kK (qQ (qL (qL (qL (qC (.q 0 (.q 1 (.q 2 (.done)))) Kr ?_))))))
  refine qG (k:=0) J J J J υ'133 J ζ'131 J ?_
  refine qP (j:=0) J J J J α'131 Tk Az (by rfl) ?_
  refine qD J J J J J (b_neq _ _ _ _) ?_
  refine qS (qW [0,3,124] (e':=[(0,_),(3,_),(124,_)]) J ?_)
  refine qQ ?_
  refine qF J (fun hp=>?_) (fun hp=>?_)
  ·
   refine qL (qC (.q 0 (.done)) Kr ?_)
   refine qR J J J J (qS (qQ (qJ (qN (qN (kH (qN (kH ?_))))))))
   refine qN (kH (qN (ck_fold (b:=b) x (pa:=pa) (pc:=pc) (m1:=m1) (m2:=m2) (oa:=oa) (oc:=oc) Ts (by rfl) (by rfl) (hR) ?_)))
   refine cR J J (()) (by congr 1;symm;rw [decide_eq_false_iff_not,can_run h1.1 h1.2,okK_k.2.2.2.2.2.1 (k8)];rintro ⟨-,h⟩;exact hp h) (by trivial) ?_
   exact Tf
  refine qH (qQ (qC (.q 0 (.q 1 (.q 2 (.q 3 (.q 4 (.q 5 (.done))))))) Kr ?_))
  refine qK J J J J (qZ J J J J (qG (k:=0) J J J J υ'138 J ζ'24 J ?_))
  refine qG (k:=0) J J J J υ'24 J ζ'3 J ?_
  refine qP (j:=0) J J J J α'3 Tk Az (by rfl) ?_
  refine qR J J J J (qS (qW [3,9] (e':=[(3,_),(9,_)]) J ?_))
  refine qQ (cS (kP J ?_))
  refine qY (kP J ?_)
  refine qY (kK (qQ (qL (qC (.q 0 (.q 1 (.q 2 (.q 3 (.q 4 (.done)))))) Kr ?_))))
  refine qG (k:=2) J J J J υ'52 J ζ'3 J ?_
  refine qP (j:=2) J J J J α'3 Tk Az (by rfl) ?_
  refine qK J J J J (qD J J J J J (sK _ _ _ _) ?_)
  refine qR J J J J (qS (qW [4] (e':=[(4,_)]) J ?_))
  refine qQ (qJ (ck_fold (b:=b) x (pa:=pa) (pc:=pc) (m1:=m1) (m2:=m2) (oa:=oa) (oc:=oc) Ts (by rfl) (by rfl) (hR) ?_))
  refine cR J J (()) (by congr 1;rw [decide_eq_decide,can_run h1.1 h1.2,okK_k.2.2.2.2.2.1 (k8)];exact ⟨fun h=>⟨h,Classical.byContradiction hp⟩,fun h=>h.1⟩) (by trivial) ?_
  exact Tf
 refine qH (qQ (qL (qL (qC (.q 0 (.q 1 (.done))) Kr ?_))))
 refine qD J J J J J (cZ _ _ _ _) ?_
 refine qR J J J J (qS (qQ ?_))
 refine qF J (fun k9=>?_) (fun k9=>?_)
 ·
  refine cS (qY (qY (kP J ?_)))
  refine kP J ?_
  refine qY (kP J ?_)
  refine kP J ?_
  refine qY (kP J ?_)
  refine qY (kP J ?_)
  refine qY (kP J ?_)
  refine qY (kP J ?_)
  refine qY (kK (qQ (qL (qC (.q 0 (.q 1 (.q 2 (.q 3 (.q 4 (.q 5 (.done))))))) Kr ?_))))
  refine qK J J J J (qZ J J J J (qG (k:=7) J J J J υ'138 J ζ'136 J ?_))
  refine qP (j:=7) J J J J α'136 Tk Az (by rfl) ?_
  refine sR J J J J υ'136 ?_
  refine qR J J J J (qS (qW [3,9] (e':=[(3,_),(9,_)]) J ?_))
  refine qQ (cS (kP J ?_))
  refine qY (kK (qQ (qL (qC (.q 0 (.q 1 (.q 2 (.q 3 (.q 4 (.done)))))) Kr ?_))))
  refine qG (k:=2) J J J J υ'52 J ζ'3 J ?_
  refine qP (j:=2) J J J J α'3 Tk Az (by rfl) ?_
  refine qK J J J J (qD J J J J J (sK _ _ _ _) ?_)
  refine qR J J J J (qS (qW [4] (e':=[(4,_)]) J ?_))
  refine qQ (qJ (ck_fold (b:=b) x (pa:=pa) (pc:=pc) (m1:=m1) (m2:=m2) (oa:=oa) (oc:=oc) Ts (by rfl) (by rfl) (hR) ?_))
  refine cR J J (()) (by congr 1;rw [decide_eq_decide,can_run h1.1 h1.2,okK_k.2.2.2.2.2.2.1 (k9)];try rfl) (by trivial) ?_
  exact Tf
 refine qH (qQ (qL (qC (.q 0 (.q 1 (.done))) Kr ?_)))
 refine qD J J J J J (cZ _ _ _ _) ?_
 refine qR J J J J (qS (qW [3,9,83] (e':=[(3,_),(9,_),(83,_)]) J ?_))
 refine qQ ?_
 refine qF J (fun k11=>?_) (fun k11=>?_)
 ·
  refine cS (qY (kP J ?_))
  refine kP J ?_
  refine qY (kP J ?_)
  refine kP J ?_
  refine qY (kP J ?_)
  refine qY (kP J ?_)
  refine qY (kP J ?_)
  refine qY (kP J ?_)
  refine qY (kP J ?_)
  refine qY (kK (qQ (qL (qC (.q 0 (.done)) Kr ?_))))
  refine qR J J J J (qS (qQ (cS (kK (qQ (qL (qC (.q 0 (.q 1 (.q 2 (.q 3 (.q 4 (.done)))))) Kr ?_)))))))
  refine qG (k:=2) J J J J υ'52 J ζ'3 J ?_
  refine qP (j:=2) J J J J α'3 Tk Az (by rfl) ?_
  refine qK J J J J (qD J J J J J (sK _ _ _ _) ?_)
  refine qR J J J J (qS (qW [4] (e':=[(4,_)]) J ?_))
  refine qQ (qJ (ck_fold (b:=b) x (pa:=pa) (pc:=pc) (m1:=m1) (m2:=m2) (oa:=oa) (oc:=oc) Ts (by rfl) (by rfl) (hR) ?_))
  refine cR J J (()) (by congr 1;rw [decide_eq_decide,can_run h1.1 h1.2,okK_k.2.2.2.2.2.2.2.1 (k11)];try rfl) (by trivial) ?_
  exact Tf
 refine qH (qQ (cS (kP J ?_)))
 refine kP J ?_
 refine qY (kP J ?_)
 refine kP J ?_
 refine qY (kP J ?_)
 refine qY (kP J ?_)
 refine qY (kP J ?_)
 refine qY (kP J ?_)
 refine qY (kP J ?_)
 refine qY (kP J ?_)
 refine qY (kK (qQ (qL (qC (.q 0 (.q 1 (.q 2 (.q 3 (.q 4 (.done)))))) Kr ?_))))
 refine qG (k:=2) J J J J υ'52 J ζ'3 J ?_
 refine qP (j:=2) J J J J α'3 Tk Az (by rfl) ?_
 refine qK J J J J (qD J J J J J (sK _ _ _ _) ?_)
 refine qR J J J J (qS (qW [4] (e':=[(4,_)]) J ?_))
 refine qQ (qJ (ck_fold (b:=b) x (pa:=pa) (pc:=pc) (m1:=m1) (m2:=m2) (oa:=oa) (oc:=oc) Ts (by rfl) (by rfl) (hR) ?_))
 refine cR J J (()) (by congr 1;rw [decide_eq_decide,can_run h1.1 h1.2];exact ⟨fun h=>by omega,fun h=>absurd h (okK_k.2.2.2.2.2.2.2.2 k1 k2 k3 k4 k5 k6 k7 k8 k9 k11)⟩) (by trivial) ?_
 exact Tf
end Go.Ab.Fe
set_option linter.unusedVariables false
set_option linter.unusedSimpArgs false
set_option maxRecDepth 100000
namespace Go.Ab.Fe
open Go Go.Proofs Go.Ab
theorem owF_put {t:Int} (h:t≠-1):(if t=-1 then none else some t)=some t:=if_neg h
theorem rel_own {x:CS} {Fs:Int→Option T3} {Fo:Int→Option Int} (hR:RelC Fs Fo x) {l v:Int} (h0:0≤l) (h:l.toNat < x.O.length) (hv:v≠-1) {th va vo lk:Int} {pa:List Int} {B:List T2} {n:Int}:RelC Fs (upd Fo l (some v)) ⟨th,va,vo,lk,pa,x.T,x.O.set l.toNat v,B,n⟩:=by
  have h:=rel_ow hR h0 h (v:=v) (th:=th) (va:=va) (vo:=vo) (lk:=lk) (pa:=pa) (B:=B) (n:=n)
  rwa [owF_put hv] at h
theorem set_set {α:Type} (l:List α) (i:Nat) (a b:α):(l.set i a).set i b=l.set i b:=by simp
abbrev ev2 (x:T2):Value:=.agg #[.int .i64 x.1,.int .i64 x.2]
theorem next_spec (pa:Option Addr) (pc b:Nat) (x:CS) (hx:CInv x) (hn:x.n≤1000000000000000) (pl:List Int) (hpl:x.pa=pl) (k t o:Int):Spec Tryz.prog 69 [.pointer (some ⟨b,0,none⟩),.agg #[.int .i64 k,.int .i64 t,.int .i64 o]] [ck pa pc b x,own 1 encZ pa pc pl] (fun (_:Unit)=>.int .i64 (nxE x k t o)) (fun _=>True) (fun _=>[ck pa pc b (nxF x k t o),own 1 encZ pa pc pl]):=by
 refine kS (n:=117) Tryz.func69 J J J ?_
 intro Γ w0
 simp only [argE,Ca,Na,Zd,Nat.reduceAdd]
 have hn0:=hx.n0
 refine qL (qC ((.l 0 [] (.q 1 (.done)))) Kr ?_)
 refine sG J J J J (us:=[_,_,_]) J ?_
 intro b3
 refine qV (qR J J J J (qS (qQ (qL (qL (qC (.q 0 ((.l 1 [] (.done)))) Kr ?_))))))
 refine qK J J J J ?_
 have sp_1:=none_spec pa pc b x
 refine qB J J J J J J κ'56 (sp_1) Ts ?_
 rintro ⟨⟩ -
 try simp only [Ca,Na]
 refine qV (qS (qQ (kN J ?_)))
 refine qH (qQ (qL (qL (qC (.q 0 (.q 1 ((.l 2 [] (.q 3 (.done)))))) Kr ?_))))
 refine qK J J J J (kC J J J J α'52 ζ'52 Tk 0 (us:=[_,_,_]) Az J J ?_)
 have sp_2:=can_spec pa pc b x hx k t o
 refine qB J J J J J J Tryz.call24 (sp_2) Ts ?_
 rintro ⟨⟩ -
 try simp only [Ca,Na]
 refine qV (rK J J J J ?_)
 refine qS (qW [0,3,11] (e':=[(0,_),(3,_),(11,_)]) J ?_)
 refine qQ ?_
 refine c_cond_np J (fun hc=>?_) (fun hc=>?_)
 ·
  have hc:¬ canF x k t o:=hc
  refine qL (qC (.q 0 (.done)) Kr ?_)
  refine qR J J J J (qS (qQ (qJ (qN ?_))))
  rw [show nxF x k t o=x from if_neg hc]
  refine cR J J (()) (by rw [show nxE x k t o=6 from if_neg hc]) (by trivial) ?_
  exact Tf
 obtain ⟨o5,o7,o9,o10,o11⟩:=can_obj hx hc
 obtain ⟨n5,n6,n7,n9,n10,n11,nn⟩:=nxF_k hc
 obtain ⟨t0,t1,t2⟩:=stF_nz (can_th hc)
 refine qH (qQ (qL (cP (A:=ck pa pc b x) Tk ?_)))
 refine ck_open fun m1 m2 Fs Fo oa oc hR=>?_
 refine qC (.q 0 (.q 1 (.q 2 (.q 3 (.q 4 (.q 5 (.q 6 ((.l 7 [] (.done)))))))))) Kr ?_
 refine qK J J J J (qZ J J J J (qG (k:=8) J J J J υ'138 J ζ'3 J ?_))
 refine qP (j:=8) J J J J α'3 Tk Az (by rfl) ?_
 refine qD J J J J J (cF _ (by exact kY Om Om)) ?_
 refine qZ J J J J (qG (k:=8) J J J J υ'138 J ζ'3 J ?_)
 refine kR (j:=8) J J J J ζ'3 (us:=[_]) J J J Tk Az (by first | decide | (simp;done) | omega) ?_
 simp only [setL,List.set]
 refine qV (qS (qW [0,3] (e':=[(0,_),(3,_)]) J ?_))
 refine qQ (qL (qL (qC (.q 0 (.q 1 (.done))) Kr ?_)))
 refine qG (k:=0) J J J J υ'52 J ζ'50 J ?_
 refine qP (j:=0) J J J J α'50 Tk Az (by rfl) ?_
 refine qS (qQ (kV (qL (qC (.q 0 (.q 1 (.done))) Kr ?_))))
 refine qD J J J J J (cZ _ _ _ _) ?_
 refine qR J J J J (qS (qQ ?_))
 refine qF J (fun k5=>?_) (fun k5=>?_)
 ·
  refine kM J (.q 0 (.q 1 (.q 2 (.q 3 (.q 4 (.q 5 (.q 6 (.q 7 ((.l 8 [] (.done))))))))))) Kr ?_
  refine qK J J J J (qZ J J J J (qG (k:=6) J J J J υ'138 J ζ'135 J ?_))
  refine qP (j:=6) J J J J α'135 Tk Az (by rfl) ?_
  refine qG (k:=2) J J J J υ'52 J ζ'3 J ?_
  refine qP (j:=2) J J J J α'3 Tk Az (by rfl) ?_
  refine qG (k:=1) J J J J υ'52 J ζ'3 J ?_
  refine qP (j:=1) J J J J α'3 Tk Az (by rfl) ?_
  refine sX (ek:=ekZ) (ev1:=ekZ) (F:=Fo) (m:=m2) (k:=o) (v:=t) (by first | exact .inl J | exact .inr J) J J J J υ'135 (cD υ'3) Tk ?_
  refine qV (qS (qW [] (e':=[]) J ?_))
  refine kG (qQ (qL (qC (.q 0 (.done)) Kr ?_)))
  refine qR J J J J (qS (qQ (qJ ?_)))
  rw [n5 k5]
  refine ck_fold (b:=b) (⟨x.th,x.va,x.vo,x.lk,x.pa,x.T,x.O.set o.toNat t,x.B,x.n+1⟩) (pa:=pa) (pc:=pc) (m1:=m1) (m2:=m2) (oa:=oa) (oc:=oc) Ts (by rfl) (by rfl) (rel_own hR (o5 (.inl k5)).1 (o5 (.inl k5)).2 Om) ?_
  refine cR J J (()) (by rw [show nxE x k t o=0 from if_pos hc]) (by trivial) ?_
  exact Tf
 refine qL (qC (.q 0 (.q 1 (.done))) Kr ?_)
 refine qD J J J J J (cZ _ _ _ _) ?_
 refine qR J J J J (qS (qW [0,3,20,31] (e':=[(0,_),(3,_),(20,_),(31,_)]) J ?_))
 refine qQ ?_
 refine qF J (fun k6=>?_) (fun k6=>?_)
 ·
  refine kM J (.q 0 (.q 1 (.q 2 (.q 3 (.q 4 (.q 5 ((.l 6 [] (.done))))))))) Kr ?_
  refine qK J J J J (qZ J J J J (qG (k:=6) J J J J υ'138 J ζ'135 J ?_))
  refine qP (j:=6) J J J J α'135 Tk Az (by rfl) ?_
  refine qG (k:=2) J J J J υ'52 J ζ'3 J ?_
  refine qP (j:=2) J J J J α'3 Tk Az (by rfl) ?_
  refine l_delete (ek:=ekZ) (ev1:=ekZ) (F:=Fo) (m:=m2) (k:=o) J J J J υ'135 (cD υ'3) Tk ?_
  refine qV (qS (qW [] (e':=[]) J ?_))
  refine kG (qQ (qL (qC (.q 0 (.done)) Kr ?_)))
  refine qR J J J J (qS (qQ (qJ ?_)))
  rw [n6 k6]
  refine ck_fold (b:=b) (⟨x.th,x.va,x.vo,x.lk,x.pa,x.T,x.O.set o.toNat (-1),x.B,x.n+1⟩) (pa:=pa) (pc:=pc) (m1:=m1) (m2:=m2) (oa:=oa) (oc:=oc) Ts (by rfl) (by rfl) (rel_ow hR (v:=-1) (o5 (.inr k6)).1 (o5 (.inr k6)).2) ?_
  refine cR J J (()) (by rw [show nxE x k t o=0 from if_pos hc]) (by trivial) ?_
  exact Tf
 refine qL (qC (.q 0 (.q 1 (.done))) Kr ?_)
 refine qD J J J J J (cZ _ _ _ _) ?_
 refine qR J J J J (qS (qQ ?_))
 refine qF J (fun k7=>?_) (fun k7=>?_)
 ·
  refine kM J (.q 0 (.q 1 (.q 2 (.q 3 (.q 4 (.q 5 (.q 6 ((.l 7 [] (.done)))))))))) Kr ?_
  refine qK J J J J (qZ J J J J (qG (k:=5) J J J J υ'138 J ζ'134 J ?_))
  refine qP (j:=5) J J J J α'134 Tk Az (by rfl) ?_
  refine qG (k:=2) J J J J υ'52 J ζ'3 J ?_
  refine qP (j:=2) J J J J α'3 Tk Az (by rfl) ?_
  refine kB J J J J (vs:=[_,_,_]) (kQ υ'133 ω'133 (ps:=[(0,1),(1,1),(2,1)]) ⟨rfl,ζ'131,rfl,ζ'3,rfl,ζ'3,trivial⟩ rfl) ?_
  refine sX (ek:=ekZ) (ev1:=ev3) (F:=Fs) (m:=m1) (k:=o) (v:=(1,0,0)) (by first | exact .inl J | exact .inr J) J J J J υ'134 (cD υ'3) Tk ?_
  refine qV (qS (qW [] (e':=[]) J ?_))
  refine kG (qQ (qL (qC (.q 0 (.done)) Kr ?_)))
  refine qR J J J J (qS (qQ (qJ ?_)))
  rw [n7 k7]
  refine ck_fold (b:=b) (⟨x.th,x.va,x.vo,x.lk,x.pa,x.T.set o.toNat (1,0,0),x.O,x.B,x.n+1⟩) (pa:=pa) (pc:=pc) (m1:=m1) (m2:=m2) (oa:=oa) (oc:=oc) Ts (by rfl) (by rfl) (rel_st hR (o7 k7).1 (o7 k7).2.1) ?_
  refine cR J J (()) (by rw [show nxE x k t o=0 from if_pos hc]) (by trivial) ?_
  exact Tf
 refine qL (qC (.q 0 (.q 1 (.done))) Kr ?_)
 refine qD J J J J J (cZ _ _ _ _) ?_
 refine qR J J J J (qS (qW [0,3,20,48] (e':=[(0,_),(3,_),(20,_),(48,_)]) J ?_))
 refine qQ ?_
 refine qF J (fun k9=>?_) (fun k9=>?_)
 ·
  refine qL ?_
  obtain ⟨p0,p1,p2,p3⟩:=o9 k9
  have hop:=opF_at (x:=x) (b:=o) p0 Om
  obtain ⟨pp,hpp⟩:=cX p2
  have hbp:=hx.op _ _ _ hop hpp
  have hpr:=hx.sh.pa pp (List.mem_of_getElem? hpp)
  refine kM J (.q 0 (.q 1 (.q 2 (.q 3 (.q 4 (.q 5 (.q 6 (.q 7 (.done))))))))) Kr ?_
  refine qK J J J J (qZ J J J J (qG (k:=7) J J J J υ'138 J ζ'136 J ?_))
  refine qP (j:=7) J J J J α'136 Tk Az (by rfl) ?_
  refine qG (k:=2) J J J J υ'52 J ζ'3 J ?_
  refine qP (j:=2) J J J J α'3 Tk Az (by rfl) ?_
  refine cK (sz:=1) (k:=o.toNat) (enc:=enc2) (xs:=x.B) J J J J J υ'136 ζ'149 hop (by first | rfl | omega) Om Tk ?_
  intro ib56 io56 ha56 hl56 hc56
  refine qR J J J J (qS (qW [0,3,5] (e':=[(0,_),(3,_),(5,_)]) J ?_))
  refine qQ (qL (kM J (.q 0 (.q 1 (.q 2 (.q 3 (.q 4 (.q 5 (.q 6 (.q 7 (.q 8 (.q 9 (.q 10 (.q 11 (.q 12 ((.l 13 [] (.done)))))))))))))))) Kr ?_))
  refine qK J J J J (qZ J J J J (qG (k:=5) J J J J υ'138 J ζ'134 J ?_))
  refine qP (j:=5) J J J J α'134 Tk Az (by rfl) ?_
  refine qG (k:=1) J J J J υ'52 J ζ'3 J ?_
  refine qP (j:=1) J J J J α'3 Tk Az (by rfl) ?_
  refine qG (k:=2) J J J J υ'52 J ζ'3 J ?_
  refine qP (j:=2) J J J J α'3 Tk Az (by rfl) ?_
  refine qK J J J J (qZ J J J J (qG (k:=0) J J J J υ'149 J ζ'3 J ?_))
  refine cQ (v:=(.int .i64 ((opF x o).1))) (j:=0) (k':=o.toNat) (enc:=enc2) (off:=io56) J J J J α'3 ha56 enc2_len hop Tk (by first | rfl | exact (Ad _).symm | omega) (by rfl) ?_
  refine kB J J J J (vs:=[_,_,_]) (kQ υ'133 ω'133 (ps:=[(0,1),(1,1),(2,1)]) ⟨rfl,ζ'131,rfl,ζ'3,rfl,ζ'3,trivial⟩ rfl) ?_
  refine sX (ek:=ekZ) (ev1:=ev3) (F:=Fs) (m:=m1) (k:=t) (v:=(2,o,(opF x o).1)) (by first | exact .inl J | exact .inr J) J J J J υ'134 (cD υ'3) Tk ?_
  refine qV (qS (qW [0,3,5] (e':=[(0,_),(3,_),(5,_)]) J ?_))
  refine qQ (qL (qC (.q 0 (.q 1 (.q 2 (.q 3 (.q 4 (.q 5 (.q 6 ((.l 7 [] (.done)))))))))) Kr ?_))
  refine qK J J J J (qZ J J J J (qG (k:=1) J J J J υ'149 J ζ'3 J ?_))
  refine cQ (v:=(.int .i64 ((opF x o).2))) (j:=1) (k':=o.toNat) (enc:=enc2) (off:=io56) J J J J α'3 ha56 enc2_len hop Tk (by first | rfl | exact (Ad _).symm | omega) (by rfl) ?_
  refine qD J J J J J (cF _ (by exact kY Om Om)) ?_
  refine qZ J J J J (qG (k:=1) J J J J υ'149 J ζ'3 J ?_)
  refine sC (j:=1) (k:=o.toNat) (q:=((opF x o).1,(opF x o).2+1)) (enc:=enc2) (off:=io56) J J J J ζ'3 (us:=[_]) J J J ha56 enc2_len hop Tk (by first | rfl | exact (Ad _).symm | omega) (by first | decide | exact Nat.le_of_ble_eq_true J) (by rfl) ?_
  refine qV ?_
  have hop2:(x.B.set o.toNat ((opF x o).1,(opF x o).2+1))[o.toNat]?=some ((opF x o).1,(opF x o).2+1):=List.getElem?_set_self p1
  refine qS (qW [0,3,5] (e':=[(0,_),(3,_),(5,_)]) J ?_)
  refine qQ (qL ?_)
  rw [hpl] at hpp p2
  refine kM J (.q 0 (.q 1 (.q 2 (.q 3 (.q 4 (.q 5 (.q 6 (.q 7 (.q 8 (.q 9 (.q 10 (.q 11 (.q 12 (.q 13 (.done))))))))))))))) Kr ?_
  refine qK J J J J (qZ J J J J (qG (k:=1) J J J J υ'149 J ζ'3 J ?_))
  refine cQ (v:=(.int .i64 ((opF x o).2+1))) (j:=1) (k':=o.toNat) (enc:=enc2) (off:=io56) J J J J α'3 ha56 enc2_len hop2 Tk (by first | rfl | exact (Ad _).symm | omega) (by rfl) ?_
  refine qK J J J J (qZ J J J J (qG (k:=0) J J J J υ'138 J ζ'24 J ?_))
  refine qG (k:=4) J J J J υ'24 J ζ'22 J ?_
  refine qP (j:=4) J J J J α'22 Tk Az (by rfl) ?_
  refine qG (k:=2) J J J J υ'52 J ζ'3 J ?_
  refine qP (j:=2) J J J J α'3 Tk Az (by rfl) ?_
  refine cK (sz:=0) (k:=o.toNat) (enc:=encZ) (xs:=pl) J J J J J υ'22 ζ'3 hpp Om (by rw [hpl];omega) Tk ?_
  intro ib88 io88 ha88 hl88 hc88
  refine cQ (v:=(.int .i64 pp)) (j:=0) (k':=o.toNat) (enc:=encZ) (off:=io88) J J J J α'3 ha88 encZ_len hpp Tk (by first | rfl | exact (Ad _).symm | omega) (by rfl) ?_
  refine qD J J J J J (cZ _ _ _ _) ?_
  refine qS (qW [5,90] (e':=[(5,_),(90,_)]) J ?_)
  refine qQ ?_
  refine qF J (fun hful=>?_) (fun hful=>?_)
  ·
   refine qC (.q 0 (.q 1 (.q 2 (.q 3 (.q 4 (.q 5 (.q 6 (.q 7 ((.l 8 [] (.done))))))))))) Kr ?_
   refine qK J J J J (qK J J J J (qZ J J J J (qG (k:=0) J J J J υ'149 J ζ'3 J ?_)))
   refine cQ (v:=(.int .i64 ((opF x o).1))) (j:=0) (k':=o.toNat) (enc:=enc2) (off:=io56) J J J J α'3 ha56 enc2_len hop2 Tk (by first | rfl | exact (Ad _).symm | omega) (by rfl) ?_
   refine qD J J J J J (cF _ (by exact kY Om Om)) ?_
   refine kB J J J J (vs:=[_,_]) (kQ υ'149 ω'149 (ps:=[(0,1),(1,1)]) ⟨rfl,ζ'3,rfl,ζ'3,trivial⟩ rfl) ?_
   refine qZ J J J J (sC (j:=0) (k:=o.toNat) (q:=((opF x o).1+1,0)) (enc:=enc2) (off:=io56) J J J J ζ'149 (us:=[_,_]) J J J ha56 enc2_len hop2 Tk (by first | rfl | exact (Ad _).symm | omega) (by first | decide | exact Nat.le_of_ble_eq_true J) (by rfl) ?_)
   refine qV ?_
   rw [set_set]
   refine qS (qW [] (e':=[]) J ?_)
   refine kG (qQ (qL (qC (.q 0 (.done)) Kr ?_)))
   refine qR J J J J (qS (qQ (qJ ?_)))
   rw [n9 k9,hpl,getD_some hpp,← hpl,show arrF (opF x o) pp=((opF x o).1+1,0) from if_pos hful]
   refine ck_fold (b:=b) (⟨x.th,x.va,x.vo,x.lk,x.pa,x.T.set t.toNat (2,o,(opF x o).1),x.O,x.B.set o.toNat ((opF x o).1+1,0),x.n+1⟩) (pa:=pa) (pc:=pc) (m1:=m1) (m2:=m2) (oa:=oa) (oc:=oc) Ts (by rfl) (by simp) (rel_st hR t0 t1) ?_
   refine cR J J (()) (by rw [show nxE x k t o=0 from if_pos hc]) (by trivial) ?_
   exact Tf
  refine qH (kG (qQ (qL (qC (.q 0 (.done)) Kr ?_))))
  refine qR J J J J (qS (qQ (qJ ?_)))
  rw [n9 k9,hpl,getD_some hpp,← hpl,show arrF (opF x o) pp=((opF x o).1,(opF x o).2+1) from if_neg hful]
  refine ck_fold (b:=b) (⟨x.th,x.va,x.vo,x.lk,x.pa,x.T.set t.toNat (2,o,(opF x o).1),x.O,x.B.set o.toNat ((opF x o).1,(opF x o).2+1),x.n+1⟩) (pa:=pa) (pc:=pc) (m1:=m1) (m2:=m2) (oa:=oa) (oc:=oc) Ts (by rfl) (by simp) (rel_st hR t0 t1) ?_
  refine cR J J (()) (by rw [show nxE x k t o=0 from if_pos hc]) (by trivial) ?_
  exact Tf
 refine qL (qC (.q 0 (.q 1 (.done))) Kr ?_)
 refine qD J J J J J (cZ _ _ _ _) ?_
 refine qR J J J J (qS (qQ ?_))
 refine qF J (fun k10=>?_) (fun k10=>?_)
 ·
  refine kM J (.q 0 (.q 1 (.q 2 (.q 3 (.q 4 (.q 5 (.q 6 ((.l 7 [] (.done)))))))))) Kr ?_
  refine qK J J J J (qZ J J J J (qG (k:=5) J J J J υ'138 J ζ'134 J ?_))
  refine qP (j:=5) J J J J α'134 Tk Az (by rfl) ?_
  refine qG (k:=1) J J J J υ'52 J ζ'3 J ?_
  refine qP (j:=1) J J J J α'3 Tk Az (by rfl) ?_
  refine kB J J J J (vs:=[_,_,_]) (kQ υ'133 ω'133 (ps:=[(0,1),(1,1),(2,1)]) ⟨rfl,ζ'131,rfl,ζ'3,rfl,ζ'3,trivial⟩ rfl) ?_
  refine sX (ek:=ekZ) (ev1:=ev3) (F:=Fs) (m:=m1) (k:=t) (v:=(1,0,0)) (by first | exact .inl J | exact .inr J) J J J J υ'134 (cD υ'3) Tk ?_
  refine qV (qS (qW [] (e':=[]) J ?_))
  refine kG (qQ (qL (qC (.q 0 (.done)) Kr ?_)))
  refine qR J J J J (qS (qQ (qJ ?_)))
  rw [n10 k10]
  refine ck_fold (b:=b) (⟨x.th,x.va,x.vo,x.lk,x.pa,x.T.set t.toNat (1,0,0),x.O,x.B,x.n+1⟩) (pa:=pa) (pc:=pc) (m1:=m1) (m2:=m2) (oa:=oa) (oc:=oc) Ts (by rfl) (by rfl) (rel_st hR t0 t1) ?_
  refine cR J J (()) (by rw [show nxE x k t o=0 from if_pos hc]) (by trivial) ?_
  exact Tf
 refine qL (qC (.q 0 (.q 1 (.done))) Kr ?_)
 refine qD J J J J J (cZ _ _ _ _) ?_
 refine qR J J J J (qS (qW [0,3,108] (e':=[(0,_),(3,_),(108,_)]) J ?_))
 refine qQ ?_
 refine qF J (fun k11=>?_) (fun k11=>?_)
 ·
  refine kM J (.q 0 (.q 1 (.q 2 (.q 3 (.q 4 (.q 5 (.q 6 ((.l 7 [] (.done)))))))))) Kr ?_
  refine qK J J J J (qZ J J J J (qG (k:=5) J J J J υ'138 J ζ'134 J ?_))
  refine qP (j:=5) J J J J α'134 Tk Az (by rfl) ?_
  refine qG (k:=1) J J J J υ'52 J ζ'3 J ?_
  refine qP (j:=1) J J J J α'3 Tk Az (by rfl) ?_
  refine kB J J J J (vs:=[_,_,_]) (kQ υ'133 ω'133 (ps:=[(0,1),(1,1),(2,1)]) ⟨rfl,ζ'131,rfl,ζ'3,rfl,ζ'3,trivial⟩ rfl) ?_
  refine sX (ek:=ekZ) (ev1:=ev3) (F:=Fs) (m:=m1) (k:=t) (v:=(3,0,0)) (by first | exact .inl J | exact .inr J) J J J J υ'134 (cD υ'3) Tk ?_
  refine qV (qS (qW [] (e':=[]) J ?_))
  refine kG (qQ (qL (qC (.q 0 (.done)) Kr ?_)))
  refine qR J J J J (qS (qQ (qJ ?_)))
  rw [n11 k11]
  refine ck_fold (b:=b) (⟨x.th,x.va,x.vo,x.lk,x.pa,x.T.set t.toNat (3,0,0),x.O,x.B,x.n+1⟩) (pa:=pa) (pc:=pc) (m1:=m1) (m2:=m2) (oa:=oa) (oc:=oc) Ts (by rfl) (by rfl) (rel_st hR t0 t1) ?_
  refine cR J J (()) (by rw [show nxE x k t o=0 from if_pos hc]) (by trivial) ?_
  exact Tf
 refine qH (kG (qQ (qL (qC (.q 0 (.done)) Kr ?_))))
 refine qR J J J J (qS (qQ (qJ ?_)))
 rw [nn k5 k6 k7 k9 k10 k11]
 refine ck_fold (b:=b) (⟨x.th,x.va,x.vo,x.lk,x.pa,x.T,x.O,x.B,x.n+1⟩) (pa:=pa) (pc:=pc) (m1:=m1) (m2:=m2) (oa:=oa) (oc:=oc) Ts (by rfl) (by rfl) (rel_n hR) ?_
 refine cR J J (()) (by rw [show nxE x k t o=0 from if_pos hc]) (by trivial) ?_
 exact Tf
theorem len_spec (pa:Option Addr) (pc b:Nat) (x:CS):Spec Tryz.prog 61 [.pointer (some ⟨b,0,none⟩)] [ck pa pc b x] (fun (_:Unit)=>.int .i64 x.n) (fun _=>True) (fun _=>[ck pa pc b x]):=by
 refine kS (n:=9) Tryz.func61 J J J ?_
 intro Γ w0
 simp only [argE,Ca,Na,Zd,Nat.reduceAdd]
 refine qL (qC (.q 0 (.done)) Kr ?_)
 refine qR J J J J (qS (qQ (qL (qL (qC (.q 0 ((.l 1 [] (.done)))) Kr ?_)))))
 refine qK J J J J ?_
 have sp_1:=none_spec pa pc b x
 refine qB J J J J J J κ'56 (sp_1) Ts ?_
 rintro ⟨⟩ -
 try simp only [Ca,Na]
 refine qV (qS (qQ (kN J ?_)))
 refine qH (qQ (qL (cP (A:=ck pa pc b x) Tk ?_)))
 refine ck_open fun m1 m2 Fs Fo oa oc hR=>?_
 refine qC (.q 0 (.q 1 (.q 2 (.q 3 (.q 4 (.done)))))) Kr ?_
 refine qK J J J J (qZ J J J J (qG (k:=8) J J J J υ'138 J ζ'3 J ?_))
 refine qP (j:=8) J J J J α'3 Tk Az (by rfl) ?_
 refine qR J J J J (qS (qW [2] (e':=[(2,_)]) J ?_))
 refine qQ (qJ (ck_fold (b:=b) x (pa:=pa) (pc:=pc) (m1:=m1) (m2:=m2) (oa:=oa) (oc:=oc) Ts (by rfl) (by rfl) (hR) ?_))
 refine cR J J (()) (by first | rfl | (first | rfl | (congr 1;done) | (congr 1 <;> first | rfl | omega | (simp;done) | (simp;omega)))) (by trivial) ?_
 exact Tf
theorem stand_spec (pa:Option Addr) (pc b:Nat) (x:CS) (t:Int):Spec Tryz.prog 100 [.pointer (some ⟨b,0,none⟩),.int .i64 t] [ck pa pc b x] (fun (_:Unit)=>.tuple #[ev3 (stF x t),.int .i64 (if 0≤t∧t < x.th then 0 else 2)]) (fun _=>True) (fun _=>[ck pa pc b x]):=by
 refine kS (n:=23) Tryz.func100 J J J ?_
 intro Γ w0
 simp only [argE,Ca,Na,Zd,Nat.reduceAdd]
 refine qL (qC ((.l 0 [] (.q 1 (.done)))) Kr ?_)
 refine cY J J J ω'133 (zs:=[.int .i64 0,.int .i64 0,.int .i64 0]) J ?_
 intro b4
 refine qV (qR J J J J (qS (qQ (qL (qL (qC (.q 0 ((.l 1 [] (.done)))) Kr ?_))))))
 refine qK J J J J ?_
 have sp_1:=none_spec pa pc b x
 refine qB J J J J J J κ'56 (sp_1) Ts ?_
 rintro ⟨⟩ -
 try simp only [Ca,Na]
 refine qV (qS (qQ (kN J ?_)))
 refine qH (qQ (qL (cP (A:=ck pa pc b x) Tk ?_)))
 refine ck_open fun m1 m2 Fs Fo oa oc hR=>?_
 refine kM J (.q 0 (.q 1 (.q 2 (.q 3 (.q 4 (.q 5 (.q 6 (.q 7 (.q 8 (.q 9 (.q 10 (.q 11 (.q 12 ((.l 13 [3,5] ((.l 14 [] (.q 15 (.done))))))))))))))))))) Kr ?_
 refine qK J J J J (qZ J J J J (qG (k:=5) J J J J υ'138 J ζ'134 J ?_))
 refine qP (j:=5) J J J J α'134 Tk Az (by rfl) ?_
 refine qK J J J J (rP (ek:=ekZ) (ev1:=ev3) (F:=Fs) (m:=m1) (k:=t) (0,0,0) J J J J J υ'134 (cD υ'3) ω'133 Tk ?_)
 refine kF 14 J (v':=.agg #[.int .i64 ((stF x t).1),.int .i64 ((stF x t).2.1),.int .i64 ((stF x t).2.2)]) (by rw [hR.st]) ?_
 refine qK J J J J (qK J J J J (qK J J J J (qZ J J J J (qG (k:=0) J J J J υ'138 J ζ'24 J ?_))))
 refine qG (k:=0) J J J J υ'24 J ζ'3 J ?_
 refine qP (j:=0) J J J J α'3 Tk Az (by rfl) ?_
 refine qB J J J J J J Tryz.call103 (asked_spec _ t x.th) Ts ?_
 rintro ⟨⟩ -
 try simp only [Ca,Na]
 refine qM (q:=5) J J J α'134 Tk Az (by rfl) ?_
 refine ag_lookup1 (ek:=ekZ) (ev1:=ev3) (F:=Fs) (m:=m1) (k:=t) (0,0,0) J J (by first | rfl | (rw [hR.st])) J J υ'134 (cD υ'3) ω'133 Tk ?_
 refine qV (kR (j:=0) J J J J ζ'133 (us:=[_,_,_]) J J J Tk Az (by first | decide | (simp;done) | omega) ?_)
 simp only [setL,List.set]
 refine qV (qR J J J J (qS (qW [4,5] (e':=[(4,_),(5,_)]) J ?_)))
 refine qQ (qJ (ck_fold (b:=b) x (pa:=pa) (pc:=pc) (m1:=m1) (m2:=m2) (oa:=oa) (oc:=oc) Ts (by rfl) (by rfl) (hR) ?_))
 refine retL (us:=[_,_]) J ⟨cH J α'133 ζ'133 Tk 0 J (us:=[_,_,_]) J J,sV rfl,trivial⟩ (()) (by first | rfl | (first | rfl | (congr 1;done) | (congr 1 <;> first | rfl | omega | (simp;done) | (simp;omega)))) (by trivial) ?_
 exact Tf
theorem round_spec (pa:Option Addr) (pc b:Nat) (x:CS) (l:Int):Spec Tryz.prog 67 [.pointer (some ⟨b,0,none⟩),.int .i64 l] [ck pa pc b x] (fun (_:Unit)=>.tuple #[ev2 (if 0≤l∧l < (x.B.length:Int) then opF x l else (0,0)),.int .i64 (if 0≤l∧l < (x.B.length:Int) then 0 else 2)]) (fun _=>True) (fun _=>[ck pa pc b x]):=by
 refine kS (n:=29) Tryz.func67 J J J ?_
 intro Γ w0
 simp only [argE,Ca,Na,Zd,Nat.reduceAdd]
 refine qL (qC ((.l 0 [] (.q 1 (.done)))) Kr ?_)
 refine cY J J J ω'149 (zs:=[.int .i64 0,.int .i64 0]) J ?_
 intro b4
 refine qV (qR J J J J (qS (qQ (qL (qL (qC (.q 0 ((.l 1 [] (.done)))) Kr ?_))))))
 refine qK J J J J ?_
 have sp_1:=none_spec pa pc b x
 refine qB J J J J J J κ'56 (sp_1) Ts ?_
 rintro ⟨⟩ -
 try simp only [Ca,Na]
 refine qV (qS (qQ (kN J ?_)))
 refine qH (qQ (qL (qL (cP (A:=ck pa pc b x) Tk ?_))))
 refine ck_open fun m1 m2 Fs Fo oa oc hR=>?_
 refine qC (.q 0 (.q 1 (.q 2 (.q 3 (.q 4 (.q 5 (.q 6 ((.l 7 [] (.q 8 (.done))))))))))) Kr ?_
 refine qK J J J J (qK J J J J (qK J J J J (qZ J J J J (qG (k:=7) J J J J υ'138 J ζ'136 J ?_))))
 refine qP (j:=7) J J J J α'136 Tk Az (by rfl) ?_
 refine sR J J J J υ'136 ?_
 refine qB J J J J J J Tryz.call103 (asked_spec _ l ((x.B.length:Nat):Int)) Ts ?_
 rintro ⟨⟩ -
 try simp only [Ca,Na]
 refine qV (qR J J J J (qS (qW [0,1,4,6] (e':=[(0,_),(1,_),(4,_),(6,_)]) J ?_)))
 refine qQ (qL (qC (.q 0 (.q 1 (.done))) Kr ?_))
 refine qK J J J J (qD J J J J J (b_neq _ _ _ _) ?_)
 refine qS (qQ ?_)
 refine qF J (fun he=>?_) (fun he=>?_)
 ·
  have hno:¬ (0≤l∧l < (x.B.length:Int)):=fun h=>he (if_pos h)
  refine qL (qC (.q 0 (.q 1 ((.l 2 [] (.q 3 (.done)))))) Kr ?_)
  refine kB J J J J (vs:=[_,_]) (kQ υ'149 ω'149 (ps:=[(0,1),(1,1)]) ⟨rfl,ζ'3,rfl,ζ'3,trivial⟩ rfl) ?_
  refine qK J J J J (kR (j:=0) J J J J ζ'149 (us:=[_,_]) J J J Tk Az (by first | decide | (simp;done) | omega) ?_)
  simp only [setL,List.set]
  refine qV (qR J J J J (qS (qW [4,5] (e':=[(4,_),(5,_)]) J ?_)))
  refine qQ (qJ (qN (ck_fold (b:=b) x (pa:=pa) (pc:=pc) (m1:=m1) (m2:=m2) (oa:=oa) (oc:=oc) Ts (by rfl) (by rfl) (hR) ?_)))
  refine retL (us:=[_,_]) J ⟨cH J α'149 ζ'149 Tk 0 J (us:=[_,_]) J J,sV rfl,trivial⟩ (()) (by rw [if_neg hno,if_neg hno];rfl) (by trivial) ?_
  exact Tf
 have hyes:0≤l∧l < (x.B.length:Int):=Classical.byContradiction fun h=>he (by rw [if_neg h];decide)
 have hop:=opF_at hyes.1 hyes.2
 refine qH (qQ (qL (qC (.q 0 (.q 1 (.q 2 (.q 3 (.q 4 (.q 5 (.q 6 ((.l 7 [] (.q 8 (.done))))))))))) Kr ?_)))
 refine qK J J J J (qZ J J J J (qG (k:=7) J J J J υ'138 J ζ'136 J ?_))
 refine qP (j:=7) J J J J α'136 Tk Az (by rfl) ?_
 refine qK J J J J (cK (sz:=1) (k:=l.toNat) (enc:=enc2) (xs:=x.B) J J J J J υ'136 ζ'149 hop (by first | rfl | omega) Om Tk ?_)
 intro ib27 io27 ha27 hl27 hc27
 refine rS (j:=0) (k':=l.toNat) (us:=[_,_]) (enc:=enc2) (off:=io27) J J J J α'149 ζ'149 ha27 enc2_len hop Tk (by first | rfl | exact (Ad _).symm | omega) (by rfl) J ?_
 refine kR (j:=0) J J J J ζ'149 (us:=[_,_]) J J J Tk Az (by first | decide | (simp;done) | omega) ?_
 simp only [setL,List.set]
 refine qV (qR J J J J (qS (qW [4,5] (e':=[(4,_),(5,_)]) J ?_)))
 refine qQ (qJ (ck_fold (b:=b) x (pa:=pa) (pc:=pc) (m1:=m1) (m2:=m2) (oa:=oa) (oc:=oc) Ts (by rfl) (by rfl) (hR) ?_))
 refine retL (us:=[_,_]) J ⟨cH J α'149 ζ'149 Tk 0 J (us:=[_,_]) J J,sV rfl,trivial⟩ (()) (by rw [if_pos hyes,if_pos hyes];rfl) (by trivial) ?_
 exact Tf
end Go.Ab.Fe
set_option linter.unusedVariables false
set_option linter.unusedSimpArgs false
set_option maxRecDepth 100000
namespace Go.Ab.Fe
open Go Go.Proofs Go.Ab
theorem rds_nil {α:Type} {A:HProp} {ao:Option Addr} {sz:Nat} {enc:α→List Value} {xs:List α} (h:RdS A ao (xs.flatMap enc)) (hsz:∀ x,(enc x).length=sz+1) (hn:ao=none):xs=[]:=by
  rcases h with h | ⟨b,o,h,-⟩
  · have:=rG hsz xs
    rw [h,List.length_nil] at this
    have h2:xs.length=0:=by
      rcases Nat.mul_eq_zero.1 this.symm with h3 | h3
      · exact h3
      · omega
    exact List.eq_nil_of_length_eq_zero h2
  · rw [hn] at h;cases h
theorem rel_new {th va vo lk:Int} {pl:List Int} (h:OkS th va vo lk pl):RelC (upd (noF:Int→Option T3) 0 (some (1,0,0))) (noF:Int→Option Int) (newF th va vo lk pl):=by
  have h1:=h.th
  have h2:=h.lk
  refine ⟨fun t=>?_,fun l=>?_⟩
  · have e:=stF_set (x:=⟨th,va,vo,lk,pl,List.replicate th.toNat (0,0,0),List.replicate lk.toNat (-1),List.replicate pl.length (0,0),0⟩) (t:=0) (s:=(1,0,0)) (Int.le_refl _) (by simp;omega) rfl (th:=th) (va:=va) (vo:=vo) (lk:=lk) (pa:=pl) (O:=List.replicate lk.toNat (-1)) (B:=List.replicate pl.length (0,0)) (n:=0) t
    rw [newF]
    refine Eq.trans ?_ e.symm
    unfold upd
    split
    · rfl
    · unfold stF noF
      split
      · rfl
      · rcases getD_mem' (List.replicate th.toNat ((0,0,0):T3)) t.toNat (0,0,0) with h | h
        · exact h.symm
        · exact (List.mem_replicate.1 h).2.symm
  · have h3:owV (newF th va vo lk pl) l=-1:=by
      unfold owV newF
      split
      · rfl
      · rcases getD_mem' (List.replicate lk.toNat (-1:Int)) l.toNat (-1) with h | h
        · exact h
        · exact (List.mem_replicate.1 h).2
    unfold owF;rw [if_pos h3];rfl
theorem clonez_spec (xs:List Int) (ao:Option Addr) (n c:Nat) (A:HProp) (hn:xs.length=n) (hr:RdS A ao (xs.flatMap encZ)) (hb:xs.length≤4000000000):Spec Tryz.prog 71 [.slice ao n c] [A] (fun (r:Option Addr × Nat)=>.slice r.1 n r.2) (fun r=>True) (fun r=>[A,own 1 encZ r.1 r.2 xs]):=by
 refine kS (n:=8) Tryz.func71 J J J ?_
 intro Γ w0
 simp only [argE,Ca,Na,Zd,Nat.reduceAdd]
 refine qL (qC (.q 0 (.done)) Kr ?_)
 refine qR J J J J (qS (qQ (qL (qL (qC (.q 0 (.q 1 (.done))) Kr ?_)))))
 refine qK J J J J (q_eq_nils J J J J υ'22 ?_)
 refine qS (qQ ?_)
 refine c_cond J (fun hno=>?_) (fun hno=>?_)
 ·
  try simp only [Bool.and_eq_true,Bool.or_eq_true,Bool.not_eq_true',Bool.not_eq_false',Bool.and_eq_false_iff,Bool.or_eq_false_iff,decide_eq_true_eq,decide_eq_false_iff_not] at hno
  have hx:=rds_nil hr encZ_len (by simpa using hno)
  subst hx
  obtain rfl:n=0:=by simpa using hn.symm
  refine cL (fun _ h=>sY (sz:=1) (enc:=encZ) h) ?_
  refine qL (qC (.q 0 (.done)) Kr ?_)
  refine qR J J J J (qS (qQ (qJ (qN (cR J J ((none,0)) (by first | rfl | (first | rfl | (congr 1;done) | (congr 1 <;> first | rfl | omega | (simp;done) | (simp;omega)))) (by trivial) ?_)))))
  exact Tf
 try simp only [Bool.and_eq_true,Bool.or_eq_true,Bool.not_eq_true',Bool.not_eq_false',Bool.and_eq_false_iff,Bool.or_eq_false_iff,decide_eq_true_eq,decide_eq_false_iff_not] at hno
 refine qH (qQ (qL (qC ((.l 0 [] (.q 1 ((.l 2 [] (.q 3 (.done))))))) Kr ?_)))
 refine cG J J J J υ'22 ζ'3 ?_
 intro b5
 refine qV (qK J J J J (cP (A:=cells b5 0 []) Tk ?_))
 refine cL (fun _ h=>own_mk (sz:=1) (enc:=encZ) (xs:=[]) (sp:=[]) (cap:=0) (Nat.le_refl _) J h) ?_
 refine cN (sz:=1) (enc:=encZ) (xs:=[]) J J J J J υ'22 τ'3 J J J (by decide) Tk Tk (by first | rfl | omega | (simp;done) | (simp;omega)) (ys:=xs) (hr) (by rfl) (by exact hn) (encZ_len) (encZ_one) Om (by show _*8≤_;omega) ?_
 intro ao7 cp7
 try simp only [Na]
 refine qV (qR J J J J (qS (qW [2] (e':=[(2,_)]) J ?_)))
 refine qQ (qJ (cR J J ((ao7,cp7)) (by rw [Zd]) (by trivial) ?_))
 exact Tf
theorem cloneo_spec (xs:List T2) (ao:Option Addr) (n c:Nat) (A:HProp) (hn:xs.length=n) (hr:RdS A ao (xs.flatMap enc2)) (hb:xs.length≤4000000000):Spec Tryz.prog 113 [.slice ao n c] [A] (fun (r:Option Addr × Nat)=>.slice r.1 n r.2) (fun r=>True) (fun r=>[A,own 2 enc2 r.1 r.2 xs]):=by
 refine kS (n:=8) Tryz.func113 J J J ?_
 intro Γ w0
 simp only [argE,Ca,Na,Zd,Nat.reduceAdd]
 refine qL (qC (.q 0 (.done)) Kr ?_)
 refine qR J J J J (qS (qQ (qL (qL (qC (.q 0 (.q 1 (.done))) Kr ?_)))))
 refine qK J J J J (q_eq_nils J J J J υ'136 ?_)
 refine qS (qQ ?_)
 refine c_cond J (fun hno=>?_) (fun hno=>?_)
 ·
  try simp only [Bool.and_eq_true,Bool.or_eq_true,Bool.not_eq_true',Bool.not_eq_false',Bool.and_eq_false_iff,Bool.or_eq_false_iff,decide_eq_true_eq,decide_eq_false_iff_not] at hno
  have hx:=rds_nil hr enc2_len (by simpa using hno)
  subst hx
  obtain rfl:n=0:=by simpa using hn.symm
  refine cL (fun _ h=>sY (sz:=2) (enc:=enc2) h) ?_
  refine qL (qC (.q 0 (.done)) Kr ?_)
  refine qR J J J J (qS (qQ (qJ (qN (cR J J ((none,0)) (by first | rfl | (first | rfl | (congr 1;done) | (congr 1 <;> first | rfl | omega | (simp;done) | (simp;omega)))) (by trivial) ?_)))))
  exact Tf
 try simp only [Bool.and_eq_true,Bool.or_eq_true,Bool.not_eq_true',Bool.not_eq_false',Bool.and_eq_false_iff,Bool.or_eq_false_iff,decide_eq_true_eq,decide_eq_false_iff_not] at hno
 refine qH (qQ (qL (qC ((.l 0 [] (.q 1 ((.l 2 [] (.q 3 (.done))))))) Kr ?_)))
 refine cG J J J J υ'136 ζ'149 ?_
 intro b5
 refine qV (qK J J J J (cP (A:=cells b5 0 []) Tk ?_))
 refine cL (fun _ h=>own_mk (sz:=2) (enc:=enc2) (xs:=[]) (sp:=[]) (cap:=0) (Nat.le_refl _) J h) ?_
 refine cN (sz:=2) (enc:=enc2) (xs:=[]) J J J J J υ'136 τ'149 J J J (by decide) Tk Tk (by first | rfl | omega | (simp;done) | (simp;omega)) (ys:=xs) (hr) (by rfl) (by exact hn) (enc2_len) (enc2_one) Om (by show _*16≤_;omega) ?_
 intro ao7 cp7
 try simp only [Na]
 refine qV (qR J J J J (qS (qW [2] (e':=[(2,_)]) J ?_)))
 refine qQ (qJ (cR J J ((ao7,cp7)) (by rw [Zd]) (by trivial) ?_))
 exact Tf
theorem mclone0_spec (m:Nat) (F:Int→Option T3):Spec Tryz.prog 111 [.map (some m)] [mapO ekZ ev3 m F] (fun (r:Nat)=>.map (some r)) (fun r=>True) (fun r=>[mapO ekZ ev3 r F,mapO ekZ ev3 m F]):=by
 refine kS (n:=9) Tryz.func111 J J J ?_
 intro Γ w0
 simp only [argE,Ca,Na,Zd,Nat.reduceAdd]
 refine qL (qC (.q 0 (.done)) Kr ?_)
 refine qR J J J J (qS (qQ (qL (qL (qC (.q 0 (.q 1 (.done))) Kr ?_)))))
 refine qK J J J J (q_eq_nilm J J J J υ'134 ?_)
 refine kF 4 J (v':=.bool false) J ?_
 refine qS (qQ (kN J ?_))
 refine qH (qQ (qL (qC (.q 0 (.q 1 ((.l 2 [] ((.l 3 [] (.q 4 (.done)))))))) Kr ?_)))
 refine qK J J J J (q_iface J J J J υ'134 ?_)
 refine l_mapClone (ek:=ekZ) (ev1:=ev3) (F:=F) (m:=m) J J J J Tryz.func92 J J Kr Kr Tk ?_
 intro mq
 refine qV (l_assert J J J J υ'134 ?_)
 refine qV (qR J J J J (qS (qW [2] (e':=[(2,_)]) J ?_)))
 refine qQ (qJ (cR J J (mq) (by first | rfl | (first | rfl | (congr 1;done) | (congr 1 <;> first | rfl | omega | (simp;done) | (simp;omega)))) (by trivial) ?_))
 exact Tf
theorem mclone1_spec (m:Nat) (F:Int→Option Int):Spec Tryz.prog 112 [.map (some m)] [mapO ekZ ekZ m F] (fun (r:Nat)=>.map (some r)) (fun r=>True) (fun r=>[mapO ekZ ekZ r F,mapO ekZ ekZ m F]):=by
 refine kS (n:=9) Tryz.func112 J J J ?_
 intro Γ w0
 simp only [argE,Ca,Na,Zd,Nat.reduceAdd]
 refine qL (qC (.q 0 (.done)) Kr ?_)
 refine qR J J J J (qS (qQ (qL (qL (qC (.q 0 (.q 1 (.done))) Kr ?_)))))
 refine qK J J J J (q_eq_nilm J J J J υ'135 ?_)
 refine kF 4 J (v':=.bool false) J ?_
 refine qS (qQ (kN J ?_))
 refine qH (qQ (qL (qC (.q 0 (.q 1 ((.l 2 [] ((.l 3 [] (.q 4 (.done)))))))) Kr ?_)))
 refine qK J J J J (q_iface J J J J υ'135 ?_)
 refine l_mapClone (ek:=ekZ) (ev1:=ekZ) (F:=F) (m:=m) J J J J Tryz.func92 J J Kr Kr Tk ?_
 intro mq
 refine qV (l_assert J J J J υ'135 ?_)
 refine qV (qR J J J J (qS (qW [2] (e':=[(2,_)]) J ?_)))
 refine qQ (qJ (cR J J (mq) (by first | rfl | (first | rfl | (congr 1;done) | (congr 1 <;> first | rfl | omega | (simp;done) | (simp;omega)))) (by trivial) ?_))
 exact Tf
theorem copy_spec (pa:Option Addr) (pc b:Nat) (x:CS) (hx:CInv x):Spec Tryz.prog 89 [.pointer (some ⟨b,0,none⟩)] [ck pa pc b x] (fun (r:Nat)=>.pointer (some ⟨r,0,none⟩)) (fun r=>True) (fun r=>[ck pa pc b x,ck pa pc r x]):=by
 refine kS (n:=27) Tryz.func89 J J J ?_
 intro Γ w0
 simp only [argE,Ca,Na,Zd,Nat.reduceAdd]
 have hbl:x.B.length≤4096:=by rw [hx.bl];exact hx.sh.pl
 refine qL (qC (.q 0 (.done)) Kr ?_)
 refine qR J J J J (qS (qQ (qL (qL (qC (.q 0 ((.l 1 [] (.done)))) Kr ?_)))))
 refine qK J J J J ?_
 have sp_1:=none_spec pa pc b x
 refine qB J J J J J J κ'56 (sp_1) Ts ?_
 rintro ⟨⟩ -
 try simp only [Ca,Na]
 refine qV (qS (qQ (kN J ?_)))
 refine qH (qQ (qL (cP (A:=ck pa pc b x) Tk ?_)))
 refine ck_open fun m1 m2 Fs Fo oa oc hR=>?_
 refine qC (.q 0 (.q 1 (.q 2 ((.l 3 [] ((.l 4 [] (.done)))))))) Kr ?_
 refine qK J J J J (qZ J J J J (kC J J J J Tryz.isAgg138 Tryz.sizeOf138 Tk 0 (us:=[_,_,_,_,_,_,_,_,_]) Az J J ?_))
 refine cY J J J ω'138 (zs:=[.int .i64 0,.int .i64 0,.int .i64 0,.int .i64 0,.slice none 0 0,.map none,.map none,.slice none 0 0,.int .i64 0]) J ?_
 intro b3
 refine qV (kR (j:=0) J J J J Tryz.sizeOf138 (us:=[_,_,_,_,_,_,_,_,_]) J J J Tk Az (by first | decide | (simp;done) | omega) ?_)
 simp only [setL,List.set]
 refine qV (qS (qW [0,3] (e':=[(0,_),(3,_)]) J ?_))
 refine qQ (qL (kM J (.q 0 (.q 1 (.q 2 (.q 3 (.q 5 (.q 6 (.q 7 (.q 8 (.q 10 (.q 11 (.q 12 (.q 13 ((.l 4 [8,13] ((.l 9 [13] ((.l 14 [] (.q 15 ((.l 16 [] (.q 17 ((.l 18 [] (.q 19 ((.l 20 [] (.done)))))))))))))))))))))))))))) Kr ?_))
 refine qK J J J J (qZ J J J J (qG (k:=5) J J J J υ'138 J ζ'134 J ?_))
 refine qP (j:=5) J J J J α'134 Tk Az (by rfl) ?_
 refine qK J J J J (qZ J J J J (qG (k:=6) J J J J υ'138 J ζ'135 J ?_))
 refine qP (j:=6) J J J J α'135 Tk Az (by rfl) ?_
 refine qK J J J J (qZ J J J J (qG (k:=7) J J J J υ'138 J ζ'136 J ?_))
 refine qP (j:=7) J J J J α'136 Tk Az (by rfl) ?_
 have sp_2:=mclone0_spec m1 Fs
 refine qB J J J J J J Tryz.call111 (sp_2) Ts ?_
 rintro n1 -
 try simp only [Ca,Na]
 refine qM (q:=6) J J J α'135 Tk Az (by rfl) ?_
 refine qM (q:=7) J J J α'136 Tk Az (by rfl) ?_
 refine qV ?_
 have sp_3:=mclone1_spec m2 Fo
 refine qB J J J J J J Tryz.call112 (sp_3) Ts ?_
 rintro n2 -
 try simp only [Ca,Na]
 refine qM (q:=7) J J J α'136 Tk Az (by rfl) ?_
 refine qV (cP (A:=own 2 enc2 oa oc x.B) Tk ?_)
 refine own_fc fun f_4a f_4b f_4c=>?_
 have sp_5:=cloneo_spec x.B oa x.B.length oc (own 2 enc2 oa oc x.B) (by rfl) (rC enc2_len (fun h=>(f_4b h).1) f_4c) Om
 refine qB J J J J J J Tryz.call113 (sp_5) Ts ?_
 rintro ⟨o2a,o2c⟩ -
 try simp only [Ca,Na]
 refine qV (qG (k:=5) J J J J υ'138 J ζ'134 J ?_)
 refine kR (j:=5) J J J J ζ'134 (us:=[_]) J J J Tk Az (by first | decide | (simp;done) | omega) ?_
 simp only [setL,List.set]
 refine qV (qG (k:=6) J J J J υ'138 J ζ'135 J ?_)
 refine kR (j:=6) J J J J ζ'135 (us:=[_]) J J J Tk Az (by first | decide | (simp;done) | omega) ?_
 simp only [setL,List.set]
 refine qV (qG (k:=7) J J J J υ'138 J ζ'136 J ?_)
 refine kR (j:=7) J J J J ζ'136 (us:=[_]) J J J Tk Az (by first | decide | (simp;done) | omega) ?_
 simp only [setL,List.set]
 refine qV (qS (qW [3] (e':=[(3,_)]) J ?_))
 refine qQ (qL (qC (.q 0 (.done)) Kr ?_))
 refine qR J J J J (qS (qQ (qJ (ck_fold (b:=b) x (pa:=pa) (pc:=pc) (m1:=m1) (m2:=m2) (oa:=oa) (oc:=oc) Ts (by rfl) (by rfl) (hR) ?_))))
 refine ck_fold (b:=b3) x (pa:=pa) (pc:=pc) (m1:=n1) (m2:=n2) (oa:=o2a) (oc:=o2c) Ts (by rfl) (by rfl) (hR) ?_
 refine cR J J (b3) (by first | rfl | (first | rfl | (congr 1;done) | (congr 1 <;> first | rfl | omega | (simp;done) | (simp;omega)))) (by trivial) ?_
 exact Tf
theorem new_spec (th va vo lk:Int) (pl:List Int) (ao:Option Addr) (n c:Nat) (A:HProp) (hr:RdS A ao (pl.flatMap encZ)) (hn:pl.length=n) (hb:n≤4000000) (hok:OkS th va vo lk pl):Spec Tryz.prog 29 [.agg #[.int .i64 th,.int .i64 va,.int .i64 vo,.int .i64 lk,.slice ao n c]] [A] (fun (r:Nat × Option Addr × Nat)=>.tuple #[.pointer (some ⟨r.1,0,none⟩),.int .i64 0]) (fun r=>True) (fun r=>[A,own 1 encZ r.2.1 r.2.2 pl,ck r.2.1 r.2.2 r.1 (newF th va vo lk pl)]):=by
 refine kS (n:=25) Tryz.func29 J J J ?_
 intro Γ w0
 simp only [argE,Ca,Na,Zd,Nat.reduceAdd]
 refine qL (qC ((.l 0 [] (.q 1 (.q 2 (.done))))) Kr ?_)
 refine sG J J J J (us:=[_,_,_,_,_]) J ?_
 intro b1
 refine qV (qR J J J J (qR J J J J (qS (qQ (qL (qL (qC (.q 0 ((.l 1 [] (.q 2 (.done))))) Kr ?_)))))))
 refine kC J J J J α'24 ζ'24 Tk 0 (us:=[_,_,_,_,_]) Az J J ?_
 have sp_1:=shape_spec th va vo lk pl ao n c A (hr) Ln Om
 refine qB J J J J J J Tryz.call70 (sp_1) Ts ?_
 rintro ⟨⟩ -
 try simp only [Ca,Na]
 refine qV (kF 6 J (v':=.int .i64 0) (by rw [if_pos hok]) ?_)
 refine qR J J J J (qS (qW [1,4] (e':=[(1,_),(4,_)]) J ?_))
 refine qQ (qL (qC (.q 0 (.q 1 (.done))) Kr ?_))
 refine qK J J J J (qD J J J J J (b_neq _ _ _ _) ?_)
 refine kF 8 J (v':=.bool false) (by first | rfl | simp) ?_
 refine qS (qQ (kN J ?_))
 refine qH (qQ (qL (qC (.q 0 (.q 1 ((.l 2 [] (.q 3 ((.l 4 [] (.done)))))))) Kr ?_)))
 refine qG (k:=4) J J J J υ'24 J ζ'22 J ?_
 refine qP (j:=4) J J J J α'22 Tk Az (by rfl) ?_
 have sp_2:=clonez_spec pl ao n c A Ln (hr) Om
 refine qB J J J J J J Tryz.call71 (sp_2) Ts ?_
 rintro ⟨qa,qc⟩ -
 try simp only [Ca,Na]
 refine qV (qG (k:=4) J J J J υ'24 J ζ'22 J ?_)
 refine kR (j:=4) J J J J ζ'22 (us:=[_]) J J J Tk Az (by first | decide | (simp;done) | omega) ?_
 simp only [setL,List.set]
 refine qV (qS (qW [1] (e':=[(1,_)]) J ?_))
 refine qQ (qL (kM J (.q 0 (.q 2 (.q 6 (.q 7 (.q 8 ((.alt (.l 1 [0,7,8] ((.alt (.l 3 [0,7,8] (.q 4 ((.alt (.l 5 [0,7,8] ((.l 9 [0] (.q 10 ((.l 11 [] (.q 12 (.q 13 (.done))))))))) (.l 9 [0] ((.l 5 [0] (.q 10 ((.l 11 [] (.q 12 (.q 13 (.done))))))))))))) (.alt (.l 5 [0,7,8] ((.alt (.l 3 [0,7,8] (.q 4 ((.l 9 [0] (.q 10 ((.l 11 [] (.q 12 (.q 13 (.done)))))))))) (.l 9 [0] ((.l 3 [0] (.q 4 (.q 10 ((.l 11 [] (.q 12 (.q 13 (.done))))))))))))) (.l 9 [0] ((.alt (.l 3 [0] (.q 4 ((.l 5 [0] (.q 10 ((.l 11 [] (.q 12 (.q 13 (.done)))))))))) (.l 5 [0] ((.l 3 [0] (.q 4 (.q 10 ((.l 11 [] (.q 12 (.q 13 (.done))))))))))))))))) (.alt (.l 5 [0,7,8] ((.alt (.l 1 [0,7,8] ((.alt (.l 3 [0,7,8] (.q 4 ((.l 9 [0] (.q 10 ((.l 11 [] (.q 12 (.q 13 (.done)))))))))) (.l 9 [0] ((.l 3 [0] (.q 4 (.q 10 ((.l 11 [] (.q 12 (.q 13 (.done))))))))))))) (.l 9 [0] ((.l 1 [0] ((.l 3 [0] (.q 4 (.q 10 ((.l 11 [] (.q 12 (.q 13 (.done))))))))))))))) (.l 9 [0] ((.alt (.l 1 [0] ((.alt (.l 3 [0] (.q 4 ((.l 5 [0] (.q 10 ((.l 11 [] (.q 12 (.q 13 (.done)))))))))) (.l 5 [0] ((.l 3 [0] (.q 4 (.q 10 ((.l 11 [] (.q 12 (.q 13 (.done))))))))))))) (.l 5 [0] ((.l 1 [0] ((.l 3 [0] (.q 4 (.q 10 ((.l 11 [] (.q 12 (.q 13 (.done))))))))))))))))))))))) Kr ?_))
 refine kC J J J J α'24 ζ'24 Tk 0 (us:=[_,_,_,_,_]) Az J J ?_
 refine kB J J J J (vs:=[_,_,_]) (kQ υ'133 ω'133 (ps:=[(0,1),(1,1),(2,1)]) ⟨rfl,ζ'131,rfl,ζ'3,rfl,ζ'3,trivial⟩ rfl) ?_
 refine qG (k:=4) J J J J υ'24 J ζ'22 J ?_
 refine qP (j:=4) J J J J α'22 Tk Az (by rfl) ?_
 refine sR J J J J υ'22 ?_
 refine rV ?_ ?_
 ·
  refine rR Int T3 ekZ ev3 J J J ?_
  intro m15
  refine kW J J (us:=[_,_,_,_,_]) J α'24 ζ'24 Tk 0 Az J J ?_
  refine qM (q:=4) J J J α'22 Tk Az (by rfl) ?_
  refine ag_len J J J υ'22 ?_
  refine qV ?_
  refine rV ?_ ?_
  ·
   refine sX (ek:=ekZ) (ev1:=ev3) (F:=(noF:Int→Option T3)) (m:=m15) (k:=0) (v:=(1,0,0)) (by first | exact .inl J | exact .inr J) J J J J υ'134 (cD υ'3) Tk ?_
   refine kW J J (us:=[_,_,_,_,_]) J α'24 ζ'24 Tk 0 Az J J ?_
   refine qM (q:=4) J J J α'22 Tk Az (by rfl) ?_
   refine ag_len J J J υ'22 ?_
   refine qV (qK J J J J ?_)
   refine rV ?_ ?_
   ·
    refine rR Int Int ekZ ekZ J J J ?_
    intro m18
    refine kW J J (us:=[_,_,_,_,_]) J α'24 ζ'24 Tk 0 Az J J ?_
    refine qM (q:=4) J J J α'22 Tk Az (by rfl) ?_
    refine ag_len J J J υ'22 ?_
    refine qV (l_make (sz:=2) (enc:=enc2) (len:=n) (cap:=n) ((0,0)) J J J J J (by first | rfl | omega) (by first | rfl | omega) υ'136 τ'149 J J J (by decide) Om Om (by show 16*_≤_;omega) (by rfl) (enc2_len) ?_)
    intro b22
    refine kW J J (us:=[_,_,_,_,_]) J α'24 ζ'24 Tk 0 Az J J ?_
    refine qV (kB J J J J (vs:=[_,_,_,_,_,_,_,_,_]) (kQ υ'138 ω'138 (ps:=[(0,5),(5,1),(6,1),(7,1),(8,1)]) ⟨rfl,ζ'24,rfl,ζ'134,rfl,ζ'135,rfl,ζ'136,rfl,ζ'3,trivial⟩ rfl) ?_)
    refine sG J J J J (us:=[_,_,_,_,_,_,_,_,_]) J ?_
    intro b24
    refine qV (qR J J J J (qR J J J J (qS (qW [2,3] (e':=[(2,_),(3,_)]) J ?_))))
    refine qQ (qJ ?_)
    have hbl:(newF th va vo lk pl).B.length=n:=by rw [← hn];simp [newF]
    rw [show (List.replicate n ((0:Int),(0:Int)):List T2)=(newF th va vo lk pl).B from by rw [← hn];rfl]
    refine ck_fold (b:=b24) (newF th va vo lk pl) (pa:=qa) (pc:=qc) (m1:=m15) (m2:=m18) (oa:=some ⟨b22,0,none⟩) (oc:=n) Ts (by rw [← hn];rfl) (by exact hbl.symm) (rel_new hok) ?_
    refine ret2 J J J ((b24,qa,qc)) (by first | rfl | (first | rfl | (congr 1;done) | (congr 1 <;> first | rfl | omega | (simp;done) | (simp;omega)))) (by trivial) ?_
    exact Tf
   refine l_make (sz:=2) (enc:=enc2) (len:=n) (cap:=n) ((0,0)) J J J J J (by first | rfl | omega) (by first | rfl | omega) υ'136 τ'149 J J J (by decide) Om Om (by show 16*_≤_;omega) (by rfl) (enc2_len) ?_
   intro b22
   refine kW J J (us:=[_,_,_,_,_]) J α'24 ζ'24 Tk 0 Az J J ?_
   refine qV (rR Int Int ekZ ekZ J J J ?_)
   intro m18
   refine kW J J (us:=[_,_,_,_,_]) J α'24 ζ'24 Tk 0 Az J J ?_
   refine qV (kB J J J J (vs:=[_,_,_,_,_,_,_,_,_]) (kQ υ'138 ω'138 (ps:=[(0,5),(5,1),(6,1),(7,1),(8,1)]) ⟨rfl,ζ'24,rfl,ζ'134,rfl,ζ'135,rfl,ζ'136,rfl,ζ'3,trivial⟩ rfl) ?_)
   refine sG J J J J (us:=[_,_,_,_,_,_,_,_,_]) J ?_
   intro b24
   refine qV (qR J J J J (qR J J J J (qS (qW [2,3] (e':=[(2,_),(3,_)]) J ?_))))
   refine qQ (qJ ?_)
   have hbl:(newF th va vo lk pl).B.length=n:=by rw [← hn];simp [newF]
   rw [show (List.replicate n ((0:Int),(0:Int)):List T2)=(newF th va vo lk pl).B from by rw [← hn];rfl]
   refine ck_fold (b:=b24) (newF th va vo lk pl) (pa:=qa) (pc:=qc) (m1:=m15) (m2:=m18) (oa:=some ⟨b22,0,none⟩) (oc:=n) Ts (by rw [← hn];rfl) (by exact hbl.symm) (rel_new hok) ?_
   refine ret2 J J J ((b24,qa,qc)) (by first | rfl | (first | rfl | (congr 1;done) | (congr 1 <;> first | rfl | omega | (simp;done) | (simp;omega)))) (by trivial) ?_
   exact Tf
  refine rV ?_ ?_
  ·
   refine rR Int Int ekZ ekZ J J J ?_
   intro m18
   refine kW J J (us:=[_,_,_,_,_]) J α'24 ζ'24 Tk 0 Az J J ?_
   refine qM (q:=4) J J J α'22 Tk Az (by rfl) ?_
   refine ag_len J J J υ'22 ?_
   refine qV ?_
   refine rV ?_ ?_
   ·
    refine sX (ek:=ekZ) (ev1:=ev3) (F:=(noF:Int→Option T3)) (m:=m15) (k:=0) (v:=(1,0,0)) (by first | exact .inl J | exact .inr J) J J J J υ'134 (cD υ'3) Tk ?_
    refine kW J J (us:=[_,_,_,_,_]) J α'24 ζ'24 Tk 0 Az J J ?_
    refine qM (q:=4) J J J α'22 Tk Az (by rfl) ?_
    refine ag_len J J J υ'22 ?_
    refine qV (qK J J J J (l_make (sz:=2) (enc:=enc2) (len:=n) (cap:=n) ((0,0)) J J J J J (by first | rfl | omega) (by first | rfl | omega) υ'136 τ'149 J J J (by decide) Om Om (by show 16*_≤_;omega) (by rfl) (enc2_len) ?_))
    intro b22
    refine kW J J (us:=[_,_,_,_,_]) J α'24 ζ'24 Tk 0 Az J J ?_
    refine qV (kB J J J J (vs:=[_,_,_,_,_,_,_,_,_]) (kQ υ'138 ω'138 (ps:=[(0,5),(5,1),(6,1),(7,1),(8,1)]) ⟨rfl,ζ'24,rfl,ζ'134,rfl,ζ'135,rfl,ζ'136,rfl,ζ'3,trivial⟩ rfl) ?_)
    refine sG J J J J (us:=[_,_,_,_,_,_,_,_,_]) J ?_
    intro b24
    refine qV (qR J J J J (qR J J J J (qS (qW [2,3] (e':=[(2,_),(3,_)]) J ?_))))
    refine qQ (qJ ?_)
    have hbl:(newF th va vo lk pl).B.length=n:=by rw [← hn];simp [newF]
    rw [show (List.replicate n ((0:Int),(0:Int)):List T2)=(newF th va vo lk pl).B from by rw [← hn];rfl]
    refine ck_fold (b:=b24) (newF th va vo lk pl) (pa:=qa) (pc:=qc) (m1:=m15) (m2:=m18) (oa:=some ⟨b22,0,none⟩) (oc:=n) Ts (by rw [← hn];rfl) (by exact hbl.symm) (rel_new hok) ?_
    refine ret2 J J J ((b24,qa,qc)) (by first | rfl | (first | rfl | (congr 1;done) | (congr 1 <;> first | rfl | omega | (simp;done) | (simp;omega)))) (by trivial) ?_
    exact Tf
   refine l_make (sz:=2) (enc:=enc2) (len:=n) (cap:=n) ((0,0)) J J J J J (by first | rfl | omega) (by first | rfl | omega) υ'136 τ'149 J J J (by decide) Om Om (by show 16*_≤_;omega) (by rfl) (enc2_len) ?_
   intro b22
   refine kW J J (us:=[_,_,_,_,_]) J α'24 ζ'24 Tk 0 Az J J ?_
   refine qV (sX (ek:=ekZ) (ev1:=ev3) (F:=(noF:Int→Option T3)) (m:=m15) (k:=0) (v:=(1,0,0)) (by first | exact .inl J | exact .inr J) J J J J υ'134 (cD υ'3) Tk ?_)
   refine kW J J (us:=[_,_,_,_,_]) J α'24 ζ'24 Tk 0 Az J J ?_
   refine qV (qK J J J J (kB J J J J (vs:=[_,_,_,_,_,_,_,_,_]) (kQ υ'138 ω'138 (ps:=[(0,5),(5,1),(6,1),(7,1),(8,1)]) ⟨rfl,ζ'24,rfl,ζ'134,rfl,ζ'135,rfl,ζ'136,rfl,ζ'3,trivial⟩ rfl) ?_))
   refine sG J J J J (us:=[_,_,_,_,_,_,_,_,_]) J ?_
   intro b24
   refine qV (qR J J J J (qR J J J J (qS (qW [2,3] (e':=[(2,_),(3,_)]) J ?_))))
   refine qQ (qJ ?_)
   have hbl:(newF th va vo lk pl).B.length=n:=by rw [← hn];simp [newF]
   rw [show (List.replicate n ((0:Int),(0:Int)):List T2)=(newF th va vo lk pl).B from by rw [← hn];rfl]
   refine ck_fold (b:=b24) (newF th va vo lk pl) (pa:=qa) (pc:=qc) (m1:=m15) (m2:=m18) (oa:=some ⟨b22,0,none⟩) (oc:=n) Ts (by rw [← hn];rfl) (by exact hbl.symm) (rel_new hok) ?_
   refine ret2 J J J ((b24,qa,qc)) (by first | rfl | (first | rfl | (congr 1;done) | (congr 1 <;> first | rfl | omega | (simp;done) | (simp;omega)))) (by trivial) ?_
   exact Tf
  refine l_make (sz:=2) (enc:=enc2) (len:=n) (cap:=n) ((0,0)) J J J J J (by first | rfl | omega) (by first | rfl | omega) υ'136 τ'149 J J J (by decide) Om Om (by show 16*_≤_;omega) (by rfl) (enc2_len) ?_
  intro b22
  refine kW J J (us:=[_,_,_,_,_]) J α'24 ζ'24 Tk 0 Az J J ?_
  refine qV ?_
  refine rV ?_ ?_
  ·
   refine sX (ek:=ekZ) (ev1:=ev3) (F:=(noF:Int→Option T3)) (m:=m15) (k:=0) (v:=(1,0,0)) (by first | exact .inl J | exact .inr J) J J J J υ'134 (cD υ'3) Tk ?_
   refine kW J J (us:=[_,_,_,_,_]) J α'24 ζ'24 Tk 0 Az J J ?_
   refine qV (qK J J J J (rR Int Int ekZ ekZ J J J ?_))
   intro m18
   refine kW J J (us:=[_,_,_,_,_]) J α'24 ζ'24 Tk 0 Az J J ?_
   refine qV (kB J J J J (vs:=[_,_,_,_,_,_,_,_,_]) (kQ υ'138 ω'138 (ps:=[(0,5),(5,1),(6,1),(7,1),(8,1)]) ⟨rfl,ζ'24,rfl,ζ'134,rfl,ζ'135,rfl,ζ'136,rfl,ζ'3,trivial⟩ rfl) ?_)
   refine sG J J J J (us:=[_,_,_,_,_,_,_,_,_]) J ?_
   intro b24
   refine qV (qR J J J J (qR J J J J (qS (qW [2,3] (e':=[(2,_),(3,_)]) J ?_))))
   refine qQ (qJ ?_)
   have hbl:(newF th va vo lk pl).B.length=n:=by rw [← hn];simp [newF]
   rw [show (List.replicate n ((0:Int),(0:Int)):List T2)=(newF th va vo lk pl).B from by rw [← hn];rfl]
   refine ck_fold (b:=b24) (newF th va vo lk pl) (pa:=qa) (pc:=qc) (m1:=m15) (m2:=m18) (oa:=some ⟨b22,0,none⟩) (oc:=n) Ts (by rw [← hn];rfl) (by exact hbl.symm) (rel_new hok) ?_
   refine ret2 J J J ((b24,qa,qc)) (by first | rfl | (first | rfl | (congr 1;done) | (congr 1 <;> first | rfl | omega | (simp;done) | (simp;omega)))) (by trivial) ?_
   exact Tf
  refine rR Int Int ekZ ekZ J J J ?_
  intro m18
  refine kW J J (us:=[_,_,_,_,_]) J α'24 ζ'24 Tk 0 Az J J ?_
  refine qV (sX (ek:=ekZ) (ev1:=ev3) (F:=(noF:Int→Option T3)) (m:=m15) (k:=0) (v:=(1,0,0)) (by first | exact .inl J | exact .inr J) J J J J υ'134 (cD υ'3) Tk ?_)
  refine kW J J (us:=[_,_,_,_,_]) J α'24 ζ'24 Tk 0 Az J J ?_
  refine qV (qK J J J J (kB J J J J (vs:=[_,_,_,_,_,_,_,_,_]) (kQ υ'138 ω'138 (ps:=[(0,5),(5,1),(6,1),(7,1),(8,1)]) ⟨rfl,ζ'24,rfl,ζ'134,rfl,ζ'135,rfl,ζ'136,rfl,ζ'3,trivial⟩ rfl) ?_))
  refine sG J J J J (us:=[_,_,_,_,_,_,_,_,_]) J ?_
  intro b24
  refine qV (qR J J J J (qR J J J J (qS (qW [2,3] (e':=[(2,_),(3,_)]) J ?_))))
  refine qQ (qJ ?_)
  have hbl:(newF th va vo lk pl).B.length=n:=by rw [← hn];simp [newF]
  rw [show (List.replicate n ((0:Int),(0:Int)):List T2)=(newF th va vo lk pl).B from by rw [← hn];rfl]
  refine ck_fold (b:=b24) (newF th va vo lk pl) (pa:=qa) (pc:=qc) (m1:=m15) (m2:=m18) (oa:=some ⟨b22,0,none⟩) (oc:=n) Ts (by rw [← hn];rfl) (by exact hbl.symm) (rel_new hok) ?_
  refine ret2 J J J ((b24,qa,qc)) (by first | rfl | (first | rfl | (congr 1;done) | (congr 1 <;> first | rfl | omega | (simp;done) | (simp;omega)))) (by trivial) ?_
  exact Tf
 refine rV ?_ ?_
 ·
  refine rR Int Int ekZ ekZ J J J ?_
  intro m18
  refine kW J J (us:=[_,_,_,_,_]) J α'24 ζ'24 Tk 0 Az J J ?_
  refine qM (q:=4) J J J α'22 Tk Az (by rfl) ?_
  refine ag_len J J J υ'22 ?_
  refine qV ?_
  refine rV ?_ ?_
  ·
   refine rR Int T3 ekZ ev3 J J J ?_
   intro m15
   refine kW J J (us:=[_,_,_,_,_]) J α'24 ζ'24 Tk 0 Az J J ?_
   refine qM (q:=4) J J J α'22 Tk Az (by rfl) ?_
   refine ag_len J J J υ'22 ?_
   refine qV ?_
   refine rV ?_ ?_
   ·
    refine sX (ek:=ekZ) (ev1:=ev3) (F:=(noF:Int→Option T3)) (m:=m15) (k:=0) (v:=(1,0,0)) (by first | exact .inl J | exact .inr J) J J J J υ'134 (cD υ'3) Tk ?_
    refine kW J J (us:=[_,_,_,_,_]) J α'24 ζ'24 Tk 0 Az J J ?_
    refine qM (q:=4) J J J α'22 Tk Az (by rfl) ?_
    refine ag_len J J J υ'22 ?_
    refine qV (qK J J J J (l_make (sz:=2) (enc:=enc2) (len:=n) (cap:=n) ((0,0)) J J J J J (by first | rfl | omega) (by first | rfl | omega) υ'136 τ'149 J J J (by decide) Om Om (by show 16*_≤_;omega) (by rfl) (enc2_len) ?_))
    intro b22
    refine kW J J (us:=[_,_,_,_,_]) J α'24 ζ'24 Tk 0 Az J J ?_
    refine qV (kB J J J J (vs:=[_,_,_,_,_,_,_,_,_]) (kQ υ'138 ω'138 (ps:=[(0,5),(5,1),(6,1),(7,1),(8,1)]) ⟨rfl,ζ'24,rfl,ζ'134,rfl,ζ'135,rfl,ζ'136,rfl,ζ'3,trivial⟩ rfl) ?_)
    refine sG J J J J (us:=[_,_,_,_,_,_,_,_,_]) J ?_
    intro b24
    refine qV (qR J J J J (qR J J J J (qS (qW [2,3] (e':=[(2,_),(3,_)]) J ?_))))
    refine qQ (qJ ?_)
    have hbl:(newF th va vo lk pl).B.length=n:=by rw [← hn];simp [newF]
    rw [show (List.replicate n ((0:Int),(0:Int)):List T2)=(newF th va vo lk pl).B from by rw [← hn];rfl]
    refine ck_fold (b:=b24) (newF th va vo lk pl) (pa:=qa) (pc:=qc) (m1:=m15) (m2:=m18) (oa:=some ⟨b22,0,none⟩) (oc:=n) Ts (by rw [← hn];rfl) (by exact hbl.symm) (rel_new hok) ?_
    refine ret2 J J J ((b24,qa,qc)) (by first | rfl | (first | rfl | (congr 1;done) | (congr 1 <;> first | rfl | omega | (simp;done) | (simp;omega)))) (by trivial) ?_
    exact Tf
   refine l_make (sz:=2) (enc:=enc2) (len:=n) (cap:=n) ((0,0)) J J J J J (by first | rfl | omega) (by first | rfl | omega) υ'136 τ'149 J J J (by decide) Om Om (by show 16*_≤_;omega) (by rfl) (enc2_len) ?_
   intro b22
   refine kW J J (us:=[_,_,_,_,_]) J α'24 ζ'24 Tk 0 Az J J ?_
   refine qV (sX (ek:=ekZ) (ev1:=ev3) (F:=(noF:Int→Option T3)) (m:=m15) (k:=0) (v:=(1,0,0)) (by first | exact .inl J | exact .inr J) J J J J υ'134 (cD υ'3) Tk ?_)
   refine kW J J (us:=[_,_,_,_,_]) J α'24 ζ'24 Tk 0 Az J J ?_
   refine qV (qK J J J J (kB J J J J (vs:=[_,_,_,_,_,_,_,_,_]) (kQ υ'138 ω'138 (ps:=[(0,5),(5,1),(6,1),(7,1),(8,1)]) ⟨rfl,ζ'24,rfl,ζ'134,rfl,ζ'135,rfl,ζ'136,rfl,ζ'3,trivial⟩ rfl) ?_))
   refine sG J J J J (us:=[_,_,_,_,_,_,_,_,_]) J ?_
   intro b24
   refine qV (qR J J J J (qR J J J J (qS (qW [2,3] (e':=[(2,_),(3,_)]) J ?_))))
   refine qQ (qJ ?_)
   have hbl:(newF th va vo lk pl).B.length=n:=by rw [← hn];simp [newF]
   rw [show (List.replicate n ((0:Int),(0:Int)):List T2)=(newF th va vo lk pl).B from by rw [← hn];rfl]
   refine ck_fold (b:=b24) (newF th va vo lk pl) (pa:=qa) (pc:=qc) (m1:=m15) (m2:=m18) (oa:=some ⟨b22,0,none⟩) (oc:=n) Ts (by rw [← hn];rfl) (by exact hbl.symm) (rel_new hok) ?_
   refine ret2 J J J ((b24,qa,qc)) (by first | rfl | (first | rfl | (congr 1;done) | (congr 1 <;> first | rfl | omega | (simp;done) | (simp;omega)))) (by trivial) ?_
   exact Tf
  refine l_make (sz:=2) (enc:=enc2) (len:=n) (cap:=n) ((0,0)) J J J J J (by first | rfl | omega) (by first | rfl | omega) υ'136 τ'149 J J J (by decide) Om Om (by show 16*_≤_;omega) (by rfl) (enc2_len) ?_
  intro b22
  refine kW J J (us:=[_,_,_,_,_]) J α'24 ζ'24 Tk 0 Az J J ?_
  refine qV (rR Int T3 ekZ ev3 J J J ?_)
  intro m15
  refine kW J J (us:=[_,_,_,_,_]) J α'24 ζ'24 Tk 0 Az J J ?_
  refine qV (sX (ek:=ekZ) (ev1:=ev3) (F:=(noF:Int→Option T3)) (m:=m15) (k:=0) (v:=(1,0,0)) (by first | exact .inl J | exact .inr J) J J J J υ'134 (cD υ'3) Tk ?_)
  refine kW J J (us:=[_,_,_,_,_]) J α'24 ζ'24 Tk 0 Az J J ?_
  refine qV (qK J J J J (kB J J J J (vs:=[_,_,_,_,_,_,_,_,_]) (kQ υ'138 ω'138 (ps:=[(0,5),(5,1),(6,1),(7,1),(8,1)]) ⟨rfl,ζ'24,rfl,ζ'134,rfl,ζ'135,rfl,ζ'136,rfl,ζ'3,trivial⟩ rfl) ?_))
  refine sG J J J J (us:=[_,_,_,_,_,_,_,_,_]) J ?_
  intro b24
  refine qV (qR J J J J (qR J J J J (qS (qW [2,3] (e':=[(2,_),(3,_)]) J ?_))))
  refine qQ (qJ ?_)
  have hbl:(newF th va vo lk pl).B.length=n:=by rw [← hn];simp [newF]
  rw [show (List.replicate n ((0:Int),(0:Int)):List T2)=(newF th va vo lk pl).B from by rw [← hn];rfl]
  refine ck_fold (b:=b24) (newF th va vo lk pl) (pa:=qa) (pc:=qc) (m1:=m15) (m2:=m18) (oa:=some ⟨b22,0,none⟩) (oc:=n) Ts (by rw [← hn];rfl) (by exact hbl.symm) (rel_new hok) ?_
  refine ret2 J J J ((b24,qa,qc)) (by first | rfl | (first | rfl | (congr 1;done) | (congr 1 <;> first | rfl | omega | (simp;done) | (simp;omega)))) (by trivial) ?_
  exact Tf
 refine l_make (sz:=2) (enc:=enc2) (len:=n) (cap:=n) ((0,0)) J J J J J (by first | rfl | omega) (by first | rfl | omega) υ'136 τ'149 J J J (by decide) Om Om (by show 16*_≤_;omega) (by rfl) (enc2_len) ?_
 intro b22
 refine kW J J (us:=[_,_,_,_,_]) J α'24 ζ'24 Tk 0 Az J J ?_
 refine qV ?_
 refine rV ?_ ?_
 ·
  refine rR Int T3 ekZ ev3 J J J ?_
  intro m15
  refine kW J J (us:=[_,_,_,_,_]) J α'24 ζ'24 Tk 0 Az J J ?_
  refine qV ?_
  refine rV ?_ ?_
  ·
   refine sX (ek:=ekZ) (ev1:=ev3) (F:=(noF:Int→Option T3)) (m:=m15) (k:=0) (v:=(1,0,0)) (by first | exact .inl J | exact .inr J) J J J J υ'134 (cD υ'3) Tk ?_
   refine kW J J (us:=[_,_,_,_,_]) J α'24 ζ'24 Tk 0 Az J J ?_
   refine qV (qK J J J J (rR Int Int ekZ ekZ J J J ?_))
   intro m18
   refine kW J J (us:=[_,_,_,_,_]) J α'24 ζ'24 Tk 0 Az J J ?_
   refine qV (kB J J J J (vs:=[_,_,_,_,_,_,_,_,_]) (kQ υ'138 ω'138 (ps:=[(0,5),(5,1),(6,1),(7,1),(8,1)]) ⟨rfl,ζ'24,rfl,ζ'134,rfl,ζ'135,rfl,ζ'136,rfl,ζ'3,trivial⟩ rfl) ?_)
   refine sG J J J J (us:=[_,_,_,_,_,_,_,_,_]) J ?_
   intro b24
   refine qV (qR J J J J (qR J J J J (qS (qW [2,3] (e':=[(2,_),(3,_)]) J ?_))))
   refine qQ (qJ ?_)
   have hbl:(newF th va vo lk pl).B.length=n:=by rw [← hn];simp [newF]
   rw [show (List.replicate n ((0:Int),(0:Int)):List T2)=(newF th va vo lk pl).B from by rw [← hn];rfl]
   refine ck_fold (b:=b24) (newF th va vo lk pl) (pa:=qa) (pc:=qc) (m1:=m15) (m2:=m18) (oa:=some ⟨b22,0,none⟩) (oc:=n) Ts (by rw [← hn];rfl) (by exact hbl.symm) (rel_new hok) ?_
   refine ret2 J J J ((b24,qa,qc)) (by first | rfl | (first | rfl | (congr 1;done) | (congr 1 <;> first | rfl | omega | (simp;done) | (simp;omega)))) (by trivial) ?_
   exact Tf
  refine rR Int Int ekZ ekZ J J J ?_
  intro m18
  refine kW J J (us:=[_,_,_,_,_]) J α'24 ζ'24 Tk 0 Az J J ?_
  refine qV (sX (ek:=ekZ) (ev1:=ev3) (F:=(noF:Int→Option T3)) (m:=m15) (k:=0) (v:=(1,0,0)) (by first | exact .inl J | exact .inr J) J J J J υ'134 (cD υ'3) Tk ?_)
  refine kW J J (us:=[_,_,_,_,_]) J α'24 ζ'24 Tk 0 Az J J ?_
  refine qV (qK J J J J (kB J J J J (vs:=[_,_,_,_,_,_,_,_,_]) (kQ υ'138 ω'138 (ps:=[(0,5),(5,1),(6,1),(7,1),(8,1)]) ⟨rfl,ζ'24,rfl,ζ'134,rfl,ζ'135,rfl,ζ'136,rfl,ζ'3,trivial⟩ rfl) ?_))
  refine sG J J J J (us:=[_,_,_,_,_,_,_,_,_]) J ?_
  intro b24
  refine qV (qR J J J J (qR J J J J (qS (qW [2,3] (e':=[(2,_),(3,_)]) J ?_))))
  refine qQ (qJ ?_)
  have hbl:(newF th va vo lk pl).B.length=n:=by rw [← hn];simp [newF]
  rw [show (List.replicate n ((0:Int),(0:Int)):List T2)=(newF th va vo lk pl).B from by rw [← hn];rfl]
  refine ck_fold (b:=b24) (newF th va vo lk pl) (pa:=qa) (pc:=qc) (m1:=m15) (m2:=m18) (oa:=some ⟨b22,0,none⟩) (oc:=n) Ts (by rw [← hn];rfl) (by exact hbl.symm) (rel_new hok) ?_
  refine ret2 J J J ((b24,qa,qc)) (by first | rfl | (first | rfl | (congr 1;done) | (congr 1 <;> first | rfl | omega | (simp;done) | (simp;omega)))) (by trivial) ?_
  exact Tf
 refine rR Int Int ekZ ekZ J J J ?_
 intro m18
 refine kW J J (us:=[_,_,_,_,_]) J α'24 ζ'24 Tk 0 Az J J ?_
 refine qV (rR Int T3 ekZ ev3 J J J ?_)
 intro m15
 refine kW J J (us:=[_,_,_,_,_]) J α'24 ζ'24 Tk 0 Az J J ?_
 refine qV (sX (ek:=ekZ) (ev1:=ev3) (F:=(noF:Int→Option T3)) (m:=m15) (k:=0) (v:=(1,0,0)) (by first | exact .inl J | exact .inr J) J J J J υ'134 (cD υ'3) Tk ?_)
 refine kW J J (us:=[_,_,_,_,_]) J α'24 ζ'24 Tk 0 Az J J ?_
 refine qV (qK J J J J (kB J J J J (vs:=[_,_,_,_,_,_,_,_,_]) (kQ υ'138 ω'138 (ps:=[(0,5),(5,1),(6,1),(7,1),(8,1)]) ⟨rfl,ζ'24,rfl,ζ'134,rfl,ζ'135,rfl,ζ'136,rfl,ζ'3,trivial⟩ rfl) ?_))
 refine sG J J J J (us:=[_,_,_,_,_,_,_,_,_]) J ?_
 intro b24
 refine qV (qR J J J J (qR J J J J (qS (qW [2,3] (e':=[(2,_),(3,_)]) J ?_))))
 refine qQ (qJ ?_)
 have hbl:(newF th va vo lk pl).B.length=n:=by rw [← hn];simp [newF]
 rw [show (List.replicate n ((0:Int),(0:Int)):List T2)=(newF th va vo lk pl).B from by rw [← hn];rfl]
 refine ck_fold (b:=b24) (newF th va vo lk pl) (pa:=qa) (pc:=qc) (m1:=m15) (m2:=m18) (oa:=some ⟨b22,0,none⟩) (oc:=n) Ts (by rw [← hn];rfl) (by exact hbl.symm) (rel_new hok) ?_
 refine ret2 J J J ((b24,qa,qc)) (by first | rfl | (first | rfl | (congr 1;done) | (congr 1 <;> first | rfl | omega | (simp;done) | (simp;omega)))) (by trivial) ?_
 exact Tf
theorem newbad_spec (th va vo lk:Int) (pl:List Int) (ao:Option Addr) (n c:Nat) (A:HProp) (hr:RdS A ao (pl.flatMap encZ)) (hn:pl.length=n) (hb:n≤4000000) (hok:¬ OkS th va vo lk pl):Spec Tryz.prog 29 [.agg #[.int .i64 th,.int .i64 va,.int .i64 vo,.int .i64 lk,.slice ao n c]] [A] (fun (_:Unit)=>.tuple #[.pointer none,.int .i64 5]) (fun _=>True) (fun _=>[A]):=by
 refine kS (n:=25) Tryz.func29 J J J ?_
 intro Γ w0
 simp only [argE,Ca,Na,Zd,Nat.reduceAdd]
 refine qL (qC ((.l 0 [] (.q 1 (.q 2 (.done))))) Kr ?_)
 refine sG J J J J (us:=[_,_,_,_,_]) J ?_
 intro b1
 refine qV (qR J J J J (qR J J J J (qS (qQ (qL (qL (qC (.q 0 ((.l 1 [] (.q 2 (.done))))) Kr ?_)))))))
 refine kC J J J J α'24 ζ'24 Tk 0 (us:=[_,_,_,_,_]) Az J J ?_
 have sp_1:=shape_spec th va vo lk pl ao n c A (hr) Ln Om
 refine qB J J J J J J Tryz.call70 (sp_1) Ts ?_
 rintro ⟨⟩ -
 try simp only [Ca,Na]
 refine qV (kF 6 J (v':=.int .i64 5) (by rw [if_neg hok]) ?_)
 refine qR J J J J (qS (qW [1,4] (e':=[(1,_),(4,_)]) J ?_))
 refine qQ (qL (qC (.q 0 (.q 1 (.done))) Kr ?_))
 refine qK J J J J (qD J J J J J (b_neq _ _ _ _) ?_)
 refine kF 8 J (v':=.bool true) (by first | rfl | simp) ?_
 refine qS (qQ (cC J ?_))
 refine qL (qC (.q 0 (.q 1 (.q 2 (.done)))) Kr ?_)
 refine qK J J J J (qR J J J J (qR J J J J (qS (qW [2,3] (e':=[(2,_),(3,_)]) J ?_))))
 refine qQ (qJ (qN (ret2 J J J (()) (by first | rfl | (first | rfl | (congr 1;done) | (congr 1 <;> first | rfl | omega | (simp;done) | (simp;omega)))) (by trivial) ?_)))
 exact Tf
end Go.Ab.Fe
set_option linter.unusedVariables false
set_option linter.unusedSimpArgs false
set_option maxRecDepth 100000
namespace Go.Ab.Vc
open Go Go.Proofs Go.Ab
def encU (z:Int):List Value:=[.int .u64 z]
theorem encU_len:∀ x,(encU x).length=1:=fun _=>rfl
theorem encU_one:∀ x,(encU x).all Value.oneCell'=true:=fun _=>rfl
abbrev maxC:Int:=281474976710655
/-- How long a list is without the zeros at its end. -/
def trN (l:List Int):Nat→Nat
  | 0=>0
  | n+1=>if l.getD n 0=0 then trN l n else n+1
def tr (l:List Int):List Int:=l.take (trN l l.length)
theorem trN_le (l:List Int):∀ n,trN l n≤n
  | 0=>Nat.le_refl _
  | n+1=>by
    unfold trN
    split
    · have:=trN_le l n;omega
    · omega
theorem tr_len (l:List Int):(tr l).length=trN l l.length:=by
  rw [tr,List.length_take,Nat.min_eq_left (trN_le _ _)]
theorem tr_le (l:List Int):(tr l).length≤l.length:=by rw [tr_len];exact trN_le _ _
theorem trN_z (l:List Int):∀ n j,trN l n≤j→j < n→l.getD j 0=0
  | 0,j,_,h=>by omega
  | n+1,j,h1,h2=>by
    unfold trN at h1
    split at h1
    · rename_i h
      by_cases hj:j=n
      · subst hj;exact h
      · exact trN_z l n j h1 Om
    · omega
theorem tr_g (l:List Int) (i:Nat):(tr l).getD i 0=l.getD i 0:=by
  by_cases h:i < trN l l.length
  · simp only [List.getD_eq_getElem?_getD,tr];rw [List.getElem?_take_of_lt h]
  · have h1:(tr l).getD i 0=0:=by simp only [List.getD_eq_getElem?_getD];rw [List.getElem?_eq_none (by rw [tr_len];omega)];rfl
    rw [h1]
    by_cases h2:i < l.length
    · exact (trN_z l l.length i Om h2).symm
    · simp only [List.getD_eq_getElem?_getD];rw [List.getElem?_eq_none Om];rfl
/-- No zero at the end. -/
def Tr (l:List Int):Prop:=l=[]∨l.getD (l.length - 1) 0≠0
theorem trN_tr (l:List Int):∀ n,trN l n=0∨l.getD (trN l n - 1) 0≠0
  | 0=>.inl rfl
  | n+1=>by
    unfold trN
    split
    · exact trN_tr l n
    · rename_i h;exact .inr h
theorem tr_Tr (l:List Int):Tr (tr l):=by
  rcases trN_tr l l.length with h | h
  · exact .inl (by rw [tr,h];rfl)
  · right;rw [tr_g,tr_len];exact h
theorem getD_mem {l:List Int} {i:Nat} {x:Int} (h:l[i]?=some x):l.getD i 0=x:=by simp [h]
/-- Vectors without zeros at the end are their clocks. -/
theorem Tr_ext {a b:List Int} (ha:Tr a) (hb:Tr b) (h:∀ i,a.getD i 0=b.getD i 0):a=b:=by
  have key:∀ {a b:List Int},Tr b→(∀ i,a.getD i 0=b.getD i 0)→b.length≤a.length:=by
    intro a b hb h
    rcases hb with hb | hb
    · subst hb;exact Nat.zero_le _
    · rcases Nat.lt_or_ge a.length b.length with h1 | h1
      · rw [← h] at hb
        simp only [List.getD_eq_getElem?_getD] at hb
        rw [List.getElem?_eq_none Om] at hb
        exact absurd J hb
      · exact h1
  have h1:=key hb h
  have h2:=key ha fun i=>(h i).symm
  apply List.ext_getElem?
  intro i
  by_cases hi:i < a.length
  · obtain ⟨x,hx⟩:=cX hi
    obtain ⟨y,hy⟩:=cX (l:=b) (i:=i) Om
    have:=h i
    rw [getD_mem hx,getD_mem hy] at this
    rw [hx,hy,this]
  · rw [List.getElem?_eq_none Om,List.getElem?_eq_none Om]
/-- A vector, as it may be. -/
structure CV (l:List Int):Prop where
  tr:Tr l
  len:l.length≤65535
  rng:∀ x∈l,0≤x∧x≤maxC
theorem tr_cv {l:List Int} (h:l.length≤65535) (hr:∀ x∈l,0≤x∧x≤maxC):CV (tr l):=⟨tr_Tr l,Nat.le_trans (tr_le l) h,fun x hx=>hr x (List.mem_of_mem_take hx)⟩
/-- As long as m at the least. -/
def pd (l:List Int) (m:Nat):List Int:=l++List.replicate (m - l.length) 0
theorem pd_len (l:List Int) (m:Nat):(pd l m).length=max l.length m:=by simp [pd];omega
theorem pd_g (l:List Int) (m i:Nat):(pd l m).getD i 0=l.getD i 0:=by
  simp only [List.getD_eq_getElem?_getD,pd]
  by_cases h:i < l.length
  · rw [List.getElem?_append_left h]
  · rw [List.getElem?_append_right Om,List.getElem?_replicate,List.getElem?_eq_none (l:=l) Om]
    split <;> rfl
/-- The join of two. -/
def jn (l m:List Int):List Int:=(List.range (max l.length m.length)).map fun i=>max (l.getD i 0) (m.getD i 0)
theorem jn_len (l m:List Int):(jn l m).length=max l.length m.length:=by simp [jn]
theorem mem_g {l:List Int} {i:Nat} (h:i < l.length):l.getD i 0∈l:=by
  obtain ⟨x,hx⟩:=cX h
  rw [getD_mem hx];exact List.mem_of_getElem? hx
theorem g_rng {l:List Int} {B:Int} (hr:∀ x∈l,0≤x∧x≤B) (hB:0≤B) (i:Nat):0≤l.getD i 0∧l.getD i 0≤B:=by
  by_cases h:i < l.length
  · exact hr _ (mem_g h)
  · have:l.getD i 0=0:=by simp only [List.getD_eq_getElem?_getD];rw [List.getElem?_eq_none Om];rfl
    omega
theorem jn_g {l m:List Int} (hl:CV l) (hm:CV m) (i:Nat):(jn l m).getD i 0=max (l.getD i 0) (m.getD i 0):=by
  by_cases h:i < max l.length m.length
  · simp only [List.getD_eq_getElem?_getD,jn,List.getElem?_map,List.getElem?_range h,Option.map_some,Option.getD_some]
  · have h1:∀ q:List Int,q.length≤i→q.getD i 0=0:=fun q hq=>by simp only [List.getD_eq_getElem?_getD];rw [List.getElem?_eq_none hq];rfl
    rw [h1 _ (by rw [jn_len];omega),h1 l Om,h1 m Om];rfl
theorem jn_cv {l m:List Int} (hl:CV l) (hm:CV m):CV (jn l m):=by
  have h1:=hl.len
  have h2:=hm.len
  refine ⟨?_,by rw [jn_len];omega,fun x hx=>?_⟩
  · by_cases h:max l.length m.length=0
    · exact .inl (List.eq_nil_of_length_eq_zero (by rw [jn_len];exact h))
    · right
      rw [jn_g hl hm,jn_len]
      have a:=g_rng hl.rng (by decide) (max l.length m.length - 1)
      have b:=g_rng hm.rng (by decide) (max l.length m.length - 1)
      rcases Nat.le_total m.length l.length with h3 | h3
      · rcases hl.tr with e | e
        · exfalso;apply h;rw [e] at h3 ⊢;simp at h3;rw [h3];rfl
        · rw [show max l.length m.length - 1=l.length - 1 from by omega] at a b ⊢;omega
      · rcases hm.tr with e | e
        · exfalso;apply h;rw [e] at h3 ⊢;simp at h3;rw [h3];rfl
        · rw [show max l.length m.length - 1=m.length - 1 from by omega] at a b ⊢;omega
  · obtain ⟨i,-,rfl⟩:=List.mem_map.1 hx
    have a:=g_rng hl.rng (by decide) i
    have b:=g_rng hm.rng (by decide) i
    omega
/-- What is joined so far, up to thread i. -/
def jnI (l m:List Int) (i:Nat):List Int:=(List.range (max l.length m.length)).map fun k=>if k < i then max (l.getD k 0) (m.getD k 0) else l.getD k 0
theorem jnI_len (l m:List Int) (i:Nat):(jnI l m i).length=max l.length m.length:=by simp [jnI]
theorem jnI_get {l m:List Int} {i k:Nat} (h:k < max l.length m.length):(jnI l m i)[k]?=some (if k < i then max (l.getD k 0) (m.getD k 0) else l.getD k 0):=by
  simp only [jnI,List.getElem?_map,List.getElem?_range h,Option.map_some]
theorem jnI_zero (l m:List Int):jnI l m 0=pd l m.length:=by
  apply List.ext_getElem?
  intro k
  by_cases h:k < max l.length m.length
  · rw [jnI_get h,if_neg Om]
    obtain ⟨x,hx⟩:=cX (l:=pd l m.length) (i:=k) (by rw [pd_len];exact h)
    rw [hx,← pd_g l m.length k,getD_mem hx]
  · rw [List.getElem?_eq_none (by rw [jnI_len];omega),List.getElem?_eq_none (by rw [pd_len];omega)]
theorem jnI_next {l m:List Int} {i:Nat} {y:Int} (hy:m[i]?=some y):(jnI l m i).set i (max (l.getD i 0) y)=jnI l m (i+1):=by
  have hi:=(List.getElem?_eq_some_iff.1 hy).1
  apply List.ext_getElem?
  intro k
  by_cases h:k < max l.length m.length
  · by_cases hk:k=i
    · subst hk
      rw [List.getElem?_set_self (by rw [jnI_len];omega),jnI_get h,if_pos Om,getD_mem hy]
    · rw [List.getElem?_set_ne (Ne.symm hk),jnI_get h,jnI_get h]
      by_cases h2:k < i
      · rw [if_pos h2,if_pos Om]
      · rw [if_neg h2,if_neg Om]
  · rw [List.getElem?_eq_none (by rw [List.length_set,jnI_len];omega),List.getElem?_eq_none (by rw [jnI_len];omega)]
theorem jnI_end {l m:List Int} (hl:CV l) {i:Nat} (h:m.length≤i):jnI l m i=jn l m:=by
  apply List.ext_getElem?
  intro k
  by_cases hk:k < max l.length m.length
  · rw [jnI_get hk,jn,List.getElem?_map,List.getElem?_range hk,Option.map_some]
    by_cases h2:k < i
    · rw [if_pos h2]
    · rw [if_neg h2]
      have h3:m.getD k 0=0:=by simp only [List.getD_eq_getElem?_getD];rw [List.getElem?_eq_none Om];rfl
      have:=g_rng hl.rng (by decide) k
      rw [h3,Int.max_eq_left this.1]
  · rw [List.getElem?_eq_none (by rw [jnI_len];omega),List.getElem?_eq_none (by rw [jn_len];omega)]
/-- A vector somewhere: where, its list's place and room, its clocks. -/
abbrev K:=Nat × Option Addr × Nat × List Int
abbrev kf (x:K):HProp:=Bun [cells x.1 0 [.slice x.2.1 x.2.2.2.length x.2.2.1],own 1 encU x.2.1 x.2.2.1 x.2.2.2]
def encP (x:K):List Value:=[.pointer (some ⟨x.1,0,none⟩)]
theorem encP_len:∀ x,(encP x).length=1:=fun _=>rfl
def jnA (l:List Int) (os:List K):List Int:=os.foldl (fun l x=>jn l x.2.2.2) l
theorem jnA_next {l:List Int} {os:List K} {i:Nat} {x:K} (h:os[i]?=some x):jnA l (os.take (i+1))=jn (jnA l (os.take i)) x.2.2.2:=by
  rw [List.take_add_one,h,jnA,jnA,List.foldl_append];rfl
/-- Is each clock at most the other's? -/
def LeqL (l m:List Int):Prop:=l.length≤m.length∧∀ i,i < l.length→l.getD i 0≤m.getD i 0
instance (l m:List Int):Decidable (LeqL l m):=inferInstanceAs (Decidable (_∧∀ i,i < l.length→_))
theorem rds_nil {α:Type} {A:HProp} {ao:Option Addr} {sz:Nat} {enc:α→List Value} {xs:List α} (h:RdS A ao (xs.flatMap enc)) (hsz:∀ x,(enc x).length=sz+1) (hn:ao=none):xs=[]:=by
  rcases h with h | ⟨b,o,h,-⟩
  · have:=rG hsz xs
    rw [h,List.length_nil] at this
    have h2:xs.length=0:=by
      rcases Nat.mul_eq_zero.1 this.symm with h3 | h3
      · exact h3
      · omega
    exact List.eq_nil_of_length_eq_zero h2
  · rw [hn] at h;cases h
theorem clone_spec (xs:List Int) (ao:Option Addr) (n c:Nat) (A:HProp) (hn:xs.length=n) (hr:RdS A ao (xs.flatMap encU)) (hb:xs.length≤4000000000000):Spec Tryz.prog 72 [.slice ao n c] [A] (fun (r:Option Addr × Nat)=>.slice r.1 n r.2) (fun r=>True) (fun r=>[A,own 1 encU r.1 r.2 xs]):=by
 refine kS (n:=8) Tryz.func72 J J J ?_
 intro Γ w0
 simp only [argE,Ca,Na,Zd,Nat.reduceAdd]
 refine qL (qC (.q 0 (.done)) Kr ?_)
 refine qR J J J J (qS (qQ (qL (qL (qC (.q 0 (.q 1 (.done))) Kr ?_)))))
 refine qK J J J J (q_eq_nils J J J J υ'159 ?_)
 refine qS (qQ ?_)
 refine c_cond J (fun hno=>?_) (fun hno=>?_)
 ·
  try simp only [Bool.and_eq_true,Bool.or_eq_true,Bool.not_eq_true',Bool.not_eq_false',Bool.and_eq_false_iff,Bool.or_eq_false_iff,decide_eq_true_eq,decide_eq_false_iff_not] at hno
  have hx:=rds_nil hr encU_len (by simpa using hno)
  subst hx
  obtain rfl:n=0:=by simpa using hn.symm
  refine cL (fun _ h=>sY (sz:=1) (enc:=encU) h) ?_
  refine qL (qC (.q 0 (.done)) Kr ?_)
  refine qR J J J J (qS (qQ (qJ (qN (cR J J ((none,0)) (by first | rfl | (first | rfl | (congr 1;done) | (congr 1 <;> first | rfl | omega | (simp;done) | (simp;omega)))) (by trivial) ?_)))))
  exact Tf
 try simp only [Bool.and_eq_true,Bool.or_eq_true,Bool.not_eq_true',Bool.not_eq_false',Bool.and_eq_false_iff,Bool.or_eq_false_iff,decide_eq_true_eq,decide_eq_false_iff_not] at hno
 refine qH (qQ (qL (qC ((.l 0 [] (.q 1 ((.l 2 [] (.q 3 (.done))))))) Kr ?_)))
 refine cG J J J J υ'159 ζ'97 ?_
 intro b5
 refine qV (qK J J J J (cP (A:=cells b5 0 []) Tk ?_))
 refine cL (fun _ h=>own_mk (sz:=1) (enc:=encU) (xs:=[]) (sp:=[]) (cap:=0) (Nat.le_refl _) J h) ?_
 refine cN (sz:=1) (enc:=encU) (xs:=[]) J J J J J υ'159 τ'97 J J J (by decide) Tk Tk (by first | rfl | omega | (simp;done) | (simp;omega)) (ys:=xs) (hr) (by rfl) (by exact hn) (encU_len) (encU_one) Om (by show _*8≤_;omega) ?_
 intro ao7 cp7
 try simp only [Na]
 refine qV (qR J J J J (qS (qW [2] (e':=[(2,_)]) J ?_)))
 refine qQ (qJ (cR J J ((ao7,cp7)) (by rw [Zd]) (by trivial) ?_))
 exact Tf
theorem trim_spec (b:Nat) (l:List Int) (ao:Option Addr) (n cap:Nat) (hn:l.length=n) (hb:n≤4000000000):Spec Tryz.prog 73 [.pointer (some ⟨b,0,none⟩)] [cells b 0 [.slice ao n cap],own 1 encU ao cap l] (fun (_:Unit)=>.tuple #[]) (fun _=>True) (fun _=>[cells b 0 [.slice ao (tr l).length cap],own 1 encU ao cap (tr l)]):=by
 refine kS (n:=32) Tryz.func73 J J J ?_
 intro Γ w0
 simp only [argE,Ca,Na,Zd,Nat.reduceAdd]
 refine qL (qC (.q 0 (.q 1 (.q 2 (.q 3 (.q 4 (.q 5 (.done))))))) Kr ?_)
 refine qK J J J J (qZ J J J J (qG (k:=0) J J J J υ'162 J ζ'159 J ?_))
 refine qP (j:=0) J J J J α'159 Tk Az (by rfl) ?_
 refine sR J J J J υ'159 ?_
 refine qR J J J J (qS (qW [0,2] (e':=[(0,_),(2,_)]) J ?_))
 refine qQ (qL (kV ?_))
 refine sS (α:=Nat) (fun (k:Nat)=>trN l l.length=trN l k∧k≤n) (fun (k:Nat)=>[(2,.int .i64 ((k:Nat):Int))]) (fun (k:Nat)=>[]) (fun (k:Nat)=>k) [0] (er:=[(0,_)]) J (n) ?_ (by exact ⟨rfl,trivial⟩) (by (try dsimp only);(try simp only [Ad,Zd]);(repeat ((with_reducible apply Z2);focus (first | (with_reducible (repeat (first | exact Z0 | apply Z1));done) | (repeat (first | exact Z0 | apply Z1)))));exact Z3) ?_
 · exact ⟨by rw [hn],Nat.le_refl _⟩
 rintro k ⟨hk,hkn⟩
 try simp only [Ca,Na]
 refine qL (qL (qC (.q 0 (.q 1 (.q 2 (.q 3 (.q 4 (.q 5 (.q 6 (.q 7 (.q 8 (.q 9 (.q 10 (.q 11 (.q 12 (.done)))))))))))))) Kr ?_))
 refine qK J J J J (qD J J J J J (b_gtr _ _ _ _) ?_)
 refine qK J J J J ?_
 refine cV 10 J (fun hk0=>?_) (fun hk0=>?_)
 ·
  obtain ⟨k,rfl⟩:∃ j,k=j+1:=⟨k - 1,by omega⟩
  obtain ⟨x,hx⟩:=cX (l:=l) (i:=k) Om
  refine qK J J J J (qZ J J J J (qG (k:=0) J J J J υ'162 J ζ'159 J ?_))
  refine qP (j:=0) J J J J α'159 Tk Az (by rfl) ?_
  refine qK J J J J (qD J J J J J (b_sub' _ (by exact kY Om Om)) ?_)
  refine kF 16 J (v':=.int .i64 ((k:Nat):Int)) (by congr 1;omega) ?_
  refine cK (sz:=0) (k:=k) (enc:=encU) (xs:=l) J J J J J υ'159 ζ'97 hx (by first | rfl | omega) Om Tk ?_
  intro ib17 io17 ha17 hl17 hc17
  refine cQ (v:=(.int .u64 x)) (j:=0) (k':=k) (enc:=encU) (off:=io17) J J J J α'97 ha17 encU_len hx Tk (by first | rfl | exact (Ad _).symm | omega) (by rfl) ?_
  refine qD J J J J J (cZ _ _ _ _) ?_
  refine kL J J J J J (qS (qQ ?_))
  refine qF J (fun hz=>?_) (fun hz=>?_)
  ·
   have hz2:trN l (k+1)=trN l k:=by rw [trN,if_pos (by rw [getD_mem hx];exact hz)]
   refine qH (qQ (kV (qC (.q 0 (.q 1 (.q 2 (.done)))) Kr ?_)))
   refine qK J J J J (qD J J J J J (b_sub' _ (by exact kY Om Om)) ?_)
   refine kF 22 J (v':=.int .i64 ((k:Nat):Int)) (by congr 1;omega) ?_
   refine qR J J J J (qS (qW [0,2,11,12,13,14,15,16,17,18,19] (e':=[(0,_),(2,_),(11,_),(12,_),(13,_),(14,_),(15,_),(16,_),(17,_),(18,_),(19,_)]) J ?_))
   refine kG (qQ ?_)
   refine kZ (x:=k+1) (k) ?_ ?_ ?_ ?_
   · exact ⟨by rw [hk,hz2],by omega⟩
   · show k < k+1;omega
   · exact ⟨rfl,rfl,trivial⟩
   · (try simp only [Ca,Na]);exact Tf
  have hz2:trN l (k+1)=k+1:=by rw [trN,if_neg (by rw [getD_mem hx];exact hz)]
  refine cS (qY (qY (kK (qQ (qC (.q 0 (.q 1 (.q 2 (.q 3 (.q 4 (.q 5 (.q 6 (.q 7 (.q 8 ((.l 9 [] (.done)))))))))))) Kr ?_)))))
  refine qK J J J J (qK J J J J (qZ J J J J (qG (k:=0) J J J J υ'162 J ζ'159 J ?_)))
  refine qP (j:=0) J J J J α'159 Tk Az (by rfl) ?_
  refine qK J J J J (cP (A:=own 1 encU ao cap l) Tk ?_)
  refine own_fc fun f_1a f_1b f_1c=>?_
  refine q_cut_hi (h':=k+1) J J J J J υ'159 ζ'97 (by first | rfl | omega) (by first | omega | (have hcap_:=f_1a;simp only [List.length_append,List.length_map,List.length_replicate,List.length_cons,List.length_nil] at hcap_;omega)) ?_
  refine cP (A:=own 1 encU ao cap l) Tk ?_
  refine cL (fun _ h=>own_take encU_len (k+1) h) ?_
  refine qZ J J J J (qG (k:=0) J J J J υ'162 J ζ'159 J ?_)
  refine kR (j:=0) J J J J ζ'159 (us:=[_]) J J J Tk Az (by first | decide | (simp;done) | omega) ?_
  simp only [setL,List.set]
  refine qV (qS (qW [] (e':=[]) J ?_))
  refine sZ ?_
  have hkk:trN l l.length=k+1:=hk.trans hz2
  have hkl:(tr l).length=k+1:=by rw [tr_len,hkk]
  refine cP (A:=own 1 encU ao cap (l.take (k+1))) Td ?_
  refine cL (Γ':=own 1 encU ao cap (tr l)::_) (fun _ h=>(by rw [tr,hkk];exact h)) ?_
  refine cP (A:=cells b 0 [.slice ao (k+1) cap]) Td ?_
  refine cL (Γ':=cells b 0 [.slice ao (tr l).length cap]::_) (fun _ h=>(by rw [hkl];exact h)) ?_
  refine ret0 J (()) (by first | rfl | (first | rfl | (congr 1;done) | (congr 1 <;> first | rfl | omega | (simp;done) | (simp;omega)))) (by trivial) ?_
  exact Tf
 obtain rfl:k=0:=by omega
 refine qX J J J J (qX J J J J (qX J J J J (qX J J J J (qX J J J J (qX J J J J (qX J J J J (qX J J J J (qX J J J J ?_))))))))
 refine kD J J J J J (qS (qQ (kN J ?_)))
 refine cS (qY (qY (kK (qQ (qC (.q 0 (.q 1 (.q 2 (.q 3 (.q 4 (.q 5 (.q 6 (.q 7 (.q 8 ((.l 9 [] (.done)))))))))))) Kr ?_)))))
 refine qK J J J J (qK J J J J (qZ J J J J (qG (k:=0) J J J J υ'162 J ζ'159 J ?_)))
 refine qP (j:=0) J J J J α'159 Tk Az (by rfl) ?_
 refine qK J J J J (cP (A:=own 1 encU ao cap l) Tk ?_)
 refine own_fc fun f_2a f_2b f_2c=>?_
 refine q_cut_hi (h':=0) J J J J J υ'159 ζ'97 (by first | rfl | omega) (by first | omega | (have hcap_:=f_2a;simp only [List.length_append,List.length_map,List.length_replicate,List.length_cons,List.length_nil] at hcap_;omega)) ?_
 refine cP (A:=own 1 encU ao cap l) Tk ?_
 refine cL (fun _ h=>own_take encU_len 0 h) ?_
 refine qZ J J J J (qG (k:=0) J J J J υ'162 J ζ'159 J ?_)
 refine kR (j:=0) J J J J ζ'159 (us:=[_]) J J J Tk Az (by first | decide | (simp;done) | omega) ?_
 simp only [setL,List.set]
 refine qV (qS (qW [] (e':=[]) J ?_))
 refine sZ ?_
 have hkk:trN l l.length=0:=hk
 have hkl:(tr l).length=0:=by rw [tr_len,hkk]
 refine cP (A:=own 1 encU ao cap (l.take 0)) Td ?_
 refine cL (Γ':=own 1 encU ao cap (tr l)::_) (fun _ h=>(by rw [tr,hkk];exact h)) ?_
 refine cP (A:=cells b 0 [.slice ao 0 cap]) Td ?_
 refine cL (Γ':=cells b 0 [.slice ao (tr l).length cap]::_) (fun _ h=>(by rw [hkl];exact h)) ?_
 refine ret0 J (()) (by first | rfl | (first | rfl | (congr 1;done) | (congr 1 <;> first | rfl | omega | (simp;done) | (simp;omega)))) (by trivial) ?_
 exact Tf
theorem of_spec (xs:List Int) (ao:Option Addr) (n c:Nat) (A:HProp) (hn:xs.length=n) (hr:RdS A ao (xs.flatMap encU)) (hl:n≤65535) (hx_:∀ x∈xs,0≤x∧x≤maxC):Spec Tryz.prog 30 [.slice ao n c] [A] (fun (r:Nat × Option Addr × Nat)=>.tuple #[.pointer (some ⟨r.1,0,none⟩),.int .i64 0]) (fun r=>True) (fun r=>[A,cells r.1 0 [.slice r.2.1 (tr xs).length r.2.2],own 1 encU r.2.1 r.2.2 (tr xs)]):=by
 refine kS (n:=26) Tryz.func30 J J J ?_
 intro Γ w0
 simp only [argE,Ca,Na,Zd,Nat.reduceAdd]
 refine qL (qC (.q 0 (.q 1 (.done))) Kr ?_)
 refine qR J J J J (qR J J J J (qS (qQ (qL (qL (qC (.q 0 (.q 1 (.q 2 (.done)))) Kr ?_))))))
 refine qK J J J J (sR J J J J υ'159 ?_)
 refine qD J J J J J (b_gtr _ _ _ _) ?_
 refine qS (qW [0,9] (e':=[(0,_),(9,_)]) J ?_)
 refine qQ ?_
 refine qF J (fun hg=>by exfalso;omega) (fun hg=>?_)
 refine qH (qQ (qL (qL (qC (.q 0 (.q 1 (.q 2 (.done)))) Kr ?_))))
 refine qK J J J J (sR J J J J υ'159 ?_)
 refine qK J J J J (qS (qQ (kV ?_)))
 refine sS (α:=Nat) (fun (i:Nat)=>i≤n) (fun (i:Nat)=>[(12,.int .i64 ((i:Nat):Int))]) (fun (i:Nat)=>[]) (fun (i:Nat)=>n - i) [0,10,11] (er:=[(0,_),(10,_),(11,_)]) J (0) ?_ (by exact ⟨rfl,trivial⟩) (by (try dsimp only);(try simp only [Ad,Zd]);(repeat ((with_reducible apply Z2);focus (first | (with_reducible (repeat (first | exact Z0 | apply Z1));done) | (repeat (first | exact Z0 | apply Z1)))));exact Z3) ?_
 · exact Nat.zero_le _
 rintro i hle_i
 try simp only [Ca,Na]
 refine qL (qC (.q 0 (.done)) Kr ?_)
 refine qD J J J J J (sK _ _ _ _) ?_
 refine qS (qQ (qL ?_))
 refine qF J (fun hlt=>?_) (fun hlt=>?_)
 ·
  refine qH (qQ (qL (kV (qL (qC (.q 0 (.q 1 (.q 2 (.done)))) Kr ?_)))))
  obtain ⟨x,hx⟩:=cX (l:=xs) (i:=i) (by first | omega | (simp;done) | (simp;omega))
  refine q_idxR (sz:=0) (k:=i) J J J J J υ'159 ζ'97 (hr) hx encU_len (by first | rfl | omega) Om ?_
  intro ib14 io14 _ hd14
  refine q_load J J J J α'97 Tk (hd14 0 (.int .u64 x) J) ?_
  refine qR J J J J (qS (qQ (qL (qC (.q 0 (.q 1 (.done))) Kr ?_))))
  refine qK J J J J (qD J J J J J (b_gtr _ _ _ _) ?_)
  refine qS (qW [0,10,11,12,17] (e':=[(0,_),(10,_),(11,_),(12,_),(17,_)]) J ?_)
  refine qQ ?_
  refine qF J (fun hg=>by exfalso;have:=hx_ x (List.mem_of_getElem? hx);simp only [maxC] at this;omega) (fun hg=>?_)
  refine qH (kG (qQ (qC (.q 0 (.q 1 (.done))) Kr ?_)))
  refine qD J J J J J (cF _ (by exact kY Om Om)) ?_
  refine qK J J J J (qS (qQ ?_))
  refine kZ (x:=i) (i+1) ?_ ?_ ?_ ?_
  · exact by show i+1≤n;omega
  · show n - (i+1) < n - i;omega
  · exact ⟨rfl,rfl,rfl,rfl,trivial⟩
  · (try simp only [Ca,Na]);exact Tf
 refine cS (qY (qY (kK (qQ (qL (qC (.q 0 ((.l 1 [] (.q 2 ((.l 3 [] (.q 4 (.done)))))))) Kr ?_))))))
 refine qK J J J J ?_
 have sp_1:=clone_spec xs ao n c A Ln (hr) (by rw [hn];omega)
 refine qB J J J J J J Tryz.call72 (sp_1) Ts ?_
 rintro ⟨qa,qc⟩ -
 try simp only [Ca,Na]
 refine qV (kB J J J J (vs:=[_]) (kQ υ'162 Tryz.zeroValue162 (ps:=[(0,1)]) ⟨rfl,ζ'159,trivial⟩ rfl) ?_)
 refine sG J J J J (us:=[_]) J ?_
 intro b22
 refine qV (qR J J J J (qS (qW [6] (e':=[(6,_)]) J ?_)))
 refine qQ (qL (qC (.q 0 ((.l 1 [] (.done)))) Kr ?_))
 refine qK J J J J ?_
 have sp_2:=trim_spec b22 xs qa n qc (by exact hn) Om
 refine qB J J J J J J Tryz.call73 (sp_2) Ts ?_
 rintro ⟨⟩ -
 try simp only [Ca,Na]
 refine qV (qS (qQ (qL (qC (.q 0 (.q 1 (.q 2 (.done)))) Kr ?_))))
 refine qK J J J J (qR J J J J (qR J J J J (qS (qW [2,3] (e':=[(2,_),(3,_)]) J ?_))))
 refine qQ (qJ (ret2 J J J ((b22,qa,qc)) (by first | rfl | (first | rfl | (congr 1;done) | (congr 1 <;> first | rfl | omega | (simp;done) | (simp;omega)))) (by trivial) ?_))
 exact Tf
theorem reach_spec (b:Nat) (l:List Int) (t:Nat) (ao:Option Addr) (n cap:Nat) (hn:l.length=n) (hb:n≤4000000000∧t≤4000000000):Spec Tryz.prog 102 [.pointer (some ⟨b,0,none⟩),.int .i64 (((t:Nat):Int) - 1)] [cells b 0 [.slice ao n cap],own 1 encU ao cap l] (fun (r:Option Addr × Nat)=>.tuple #[]) (fun r=>True) (fun r=>[cells b 0 [.slice r.1 (pd l t).length r.2],own 1 encU r.1 r.2 (pd l t)]):=by
 refine kS (n:=24) Tryz.func102 J J J ?_
 intro Γ w0
 simp only [argE,Ca,Na,Zd,Nat.reduceAdd]
 refine qL (qC (.q 0 (.q 1 (.q 2 (.q 3 (.q 4 (.q 5 (.q 6 (.q 7 (.q 8 (.done)))))))))) Kr ?_)
 refine qK J J J J (qD J J J J J (cF _ (by exact kY Om Om)) ?_)
 refine kF 6 J (v':=.int .i64 ((t:Nat):Int)) (by congr 1;omega) ?_
 refine qK J J J J (qZ J J J J (qG (k:=0) J J J J υ'162 J ζ'159 J ?_))
 refine qP (j:=0) J J J J α'159 Tk Az (by rfl) ?_
 refine sR J J J J υ'159 ?_
 refine qD J J J J J (b_sub' _ (by exact kY Om Om)) ?_
 refine qR J J J J (qS (qW [0,4] (e':=[(0,_),(4,_)]) J ?_))
 refine qQ (qL (qC (.q 0 (.q 1 (.done))) Kr ?_))
 refine qK J J J J (qD J J J J J (b_gtr _ _ _ _) ?_)
 refine qS (qQ ?_)
 refine qF J (fun hgt=>?_) (fun hgt=>?_)
 ·
  refine qC (.q 0 (.q 1 (.q 2 (.q 3 (.q 4 (.q 5 ((.l 6 [] (.q 7 (.q 8 ((.l 9 [] (.done))))))))))))) Kr ?_
  refine qK J J J J (qK J J J J (qZ J J J J (qG (k:=0) J J J J υ'162 J ζ'159 J ?_)))
  refine qP (j:=0) J J J J α'159 Tk Az (by rfl) ?_
  refine qK J J J J (l_appendZ (sz:=1) (enc:=encU) (m:=t - n) (xs:=l) (0:Int) J J J J J υ'159 υ'3 τ'97 J J J (by decide) Tk (by first | exact hn | rfl) Om J encU_len encU_one Om (by show _*8≤_;omega) ?_)
  intro ao21 cp21
  rw [show l++List.replicate (t - n) 0=pd l t from by rw [pd,hn]]
  have hpl:(pd l t).length=n+(t - n):=by rw [pd_len,hn];omega
  refine qV (qZ J J J J (qG (k:=0) J J J J υ'162 J ζ'159 J ?_))
  refine kR (j:=0) J J J J ζ'159 (us:=[_]) J J J Tk Az (by first | decide | (simp;done) | omega) ?_
  simp only [setL,List.set]
  refine qV (qS (qW [] (e':=[]) J ?_))
  refine sZ ?_
  refine cP (A:=cells b 0 [.slice ao21 (n+(t - n)) cp21]) Td ?_
  refine cL (Γ':=cells b 0 [.slice ao21 (pd l t).length cp21]::_) (fun _ h=>(by rw [hpl];exact h)) ?_
  refine ret0 J ((ao21,cp21)) (by first | rfl | (first | rfl | (congr 1;done) | (congr 1 <;> first | rfl | omega | (simp;done) | (simp;omega)))) (by trivial) ?_
  exact Tf
 have hpd:pd l t=l:=by rw [pd,show t - l.length=0 from by omega];simp
 rw [show own 1 encU ao cap l=own 1 encU ao cap (pd l t) from by rw [hpd]]
 have hpl:(pd l t).length=n:=by rw [hpd,hn]
 refine qH (sZ ?_)
 refine cP (A:=cells b 0 [.slice ao n cap]) Td ?_
 refine cL (Γ':=cells b 0 [.slice ao (pd l t).length cap]::_) (fun _ h=>(by rw [hpl];exact h)) ?_
 refine ret0 J ((ao,cap)) (by first | rfl | (first | rfl | (congr 1;done) | (congr 1 <;> first | rfl | omega | (simp;done) | (simp;omega)))) (by trivial) ?_
 exact Tf
theorem index_spec (os:List K) (bo:Option Addr) (m c:Nat) (A:HProp) (hr:RdS A bo (os.flatMap encP)) (hm:os.length=m) (hb:m≤4000000000):Spec Tryz.prog 135 [.slice bo m c,.pointer none] [A] (fun (_:Unit)=>.int .i64 (-1)) (fun _=>True) (fun _=>[A]):=by
 refine kS (n:=19) Tryz.func135 J J J ?_
 intro Γ w0
 simp only [argE,Ca,Na,Zd,Nat.reduceAdd]
 refine qL (qC (.q 0 (.done)) Kr ?_)
 refine qR J J J J (qS (qQ (qL (qL (qC (.q 0 (.q 1 (.q 2 (.done)))) Kr ?_)))))
 refine qK J J J J (sR J J J J υ'218 ?_)
 refine qK J J J J (qS (qQ (kV ?_)))
 refine sS (α:=Nat) (fun (i:Nat)=>i≤m) (fun (i:Nat)=>[(8,.int .i64 ((i:Nat):Int))]) (fun (i:Nat)=>[]) (fun (i:Nat)=>m - i) [0,1,7] (er:=[(0,_),(1,_),(7,_)]) J (0) ?_ (by exact ⟨rfl,trivial⟩) (by (try dsimp only);(try simp only [Ad,Zd]);(repeat ((with_reducible apply Z2);focus (first | (with_reducible (repeat (first | exact Z0 | apply Z1));done) | (repeat (first | exact Z0 | apply Z1)))));exact Z3) ?_
 · exact Nat.zero_le _
 rintro i hle_i
 try simp only [Ca,Na]
 refine qL (qC (.q 0 (.done)) Kr ?_)
 refine qD J J J J J (sK _ _ _ _) ?_
 refine qS (qQ (qL ?_))
 refine qF J (fun hlt=>?_) (fun hlt=>?_)
 ·
  refine qH (qQ (qL (kV (qL (qC (.q 0 (.q 1 (.done))) Kr ?_)))))
  refine qK J J J J (qR J J J J (qS (qQ (qL (qC (.q 0 (.q 1 (.q 2 (.q 3 (.q 4 (.q 5 (.done))))))) Kr ?_)))))
  refine qK J J J J (qK J J J J (qK J J J J ?_))
  obtain ⟨x,hx⟩:=cX (l:=os) (i:=i) (by first | omega | (simp;done) | (simp;omega))
  refine q_idxR (sz:=0) (k:=i) J J J J J υ'218 ζ'94 (hr) hx encP_len (by first | rfl | omega) Om ?_
  intro ib14 io14 _ hd14
  refine q_load J J J J α'94 Tk (hd14 0 (.pointer (some ⟨x.1,0,none⟩)) J) ?_
  refine q_eqp J J J J J υ'94 (by first | exact .inl J | exact .inr J) ?_
  refine kF 16 J (v':=.bool false) (by simp) ?_
  refine qS (qW [0,1,5,7,8,16] (e':=[(0,_),(1,_),(5,_),(7,_),(8,_),(16,_)]) J ?_)
  refine qQ (kN J ?_)
  refine qH (kG (qQ (qC (.q 0 (.q 1 (.done))) Kr ?_)))
  refine qD J J J J J (cF _ (by exact kY Om Om)) ?_
  refine qK J J J J (qS (qQ ?_))
  refine kZ (x:=i) (i+1) ?_ ?_ ?_ ?_
  · exact by show i+1≤m;omega
  · show m - (i+1) < m - i;omega
  · exact ⟨rfl,rfl,rfl,rfl,trivial⟩
  · (try simp only [Ca,Na]);exact Tf
 refine cS (qY (qY (kK (qQ (qL (qC (.q 0 (.done)) Kr ?_))))))
 refine qR J J J J (qS (qW [4] (e':=[(4,_)]) J ?_))
 refine qQ (qJ (cR J J (()) (by first | rfl | (first | rfl | (congr 1;done) | (congr 1 <;> first | rfl | omega | (simp;done) | (simp;omega)))) (by trivial) ?_))
 exact Tf
theorem contains_spec (os:List K) (bo:Option Addr) (m c:Nat) (A:HProp) (hr:RdS A bo (os.flatMap encP)) (hm:os.length=m) (hb:m≤4000000000):Spec Tryz.prog 126 [.slice bo m c,.pointer none] [A] (fun (_:Unit)=>.bool false) (fun _=>True) (fun _=>[A]):=by
 refine kS (n:=9) Tryz.func126 J J J ?_
 intro Γ w0
 simp only [argE,Ca,Na,Zd,Nat.reduceAdd]
 refine qL (qC (.q 0 (.done)) Kr ?_)
 refine qR J J J J (qS (qQ (qL (qC (.q 0 (.q 1 ((.l 2 [] (.q 3 (.q 4 (.done))))))) Kr ?_))))
 refine qK J J J J (qK J J J J ?_)
 have sp_1:=index_spec os bo m c A hr hm hb
 refine qB J J J J J J Tryz.call135 (sp_1) Ts ?_
 rintro ⟨⟩ -
 try simp only [Ca,Na]
 refine qV (qD J J J J J (b_geq _ _ _ _) ?_)
 refine kF 8 J (v':=.bool false) (by first | rfl | simp) ?_
 refine qR J J J J (qS (qW [4] (e':=[(4,_)]) J ?_))
 refine qQ (qJ (cR J J (()) (by first | rfl | (first | rfl | (congr 1;done) | (congr 1 <;> first | rfl | omega | (simp;done) | (simp;omega)))) (by trivial) ?_))
 exact Tf
end Go.Ab.Vc
set_option linter.unusedVariables false
set_option linter.unusedSimpArgs false
set_option maxRecDepth 100000
namespace Go.Ab.Vc
open Go Go.Proofs Go.Ab
theorem join_spec (b:Nat) (l:List Int) (ao:Option Addr) (n cap:Nat) (hn:l.length=n) (hl:CV l) (os M:List K) (hos:∀ x∈os,x∈M) (hMc:∀ x∈M,CV x.2.2.2) (bo:Option Addr) (m c:Nat) (A:HProp) (hr:RdS A bo (os.flatMap encP)) (hm:os.length=m) (hb:m≤4000000000):Spec Tryz.prog 99 [.pointer (some ⟨b,0,none⟩),.slice bo m c] [cells b 0 [.slice ao n cap],own 1 encU ao cap l,A,bigS kf M] (fun (r:Option Addr × Nat)=>.int .i64 0) (fun r=>True) (fun r=>[cells b 0 [.slice r.1 (jnA l os).length r.2],own 1 encU r.1 r.2 (jnA l os),A,bigS kf M]):=by
 refine kS (n:=56) Tryz.func99 J J J ?_
 intro Γ w0
 simp only [argE,Ca,Na,Zd,Nat.reduceAdd]
 refine qL (qC (.q 0 (.done)) Kr ?_)
 refine qR J J J J (qS (qQ (qL (qL (qC (.q 0 (.q 1 (.q 2 (.q 3 ((.l 4 [] (.q 5 (.done)))))))) Kr ?_)))))
 refine qK J J J J (cM J J J J υ'94 ?_)
 refine kF 10 J (v':=.bool false) J ?_
 refine qK J J J J (qK J J J J ?_)
 have sp_1:=contains_spec os bo m c A hr hm hb
 refine qB J J J J J J Tryz.call126 (sp_1) Ts ?_
 rintro ⟨⟩ -
 try simp only [Ca,Na]
 refine qV (kD J J J J J (qS (qW [0,1,14] (e':=[(0,_),(1,_),(14,_)]) J ?_)))
 refine qQ (kN J ?_)
 refine qH (qQ (qL (qL (qC (.q 0 (.q 1 (.q 2 (.done)))) Kr ?_))))
 refine qK J J J J (sR J J J J υ'218 ?_)
 refine qK J J J J (qS (qQ (kV ?_)))
 rw [← hn]
 refine sS (α:=Nat × Option Addr × Nat) (fun (x_:Nat × Option Addr × Nat)=>match x_ with | (k,ja,jc)=>k≤m∧(CV (jnA l (os.take k)))) (fun (x_:Nat × Option Addr × Nat)=>match x_ with | (k,ja,jc)=>[(17,.int .i64 ((k:Nat):Int))]) (fun (x_:Nat × Option Addr × Nat)=>match x_ with | (k,ja,jc)=>[cells b 0 [.slice ja ((jnA l (os.take k)).length) jc],own 1 encU ja jc (jnA l (os.take k))]) (fun (x_:Nat × Option Addr × Nat)=>match x_ with | (k,ja,jc)=>m - k) [0,15,16] (er:=[(0,_),(15,_),(16,_)]) J (0,ao,cap) ?_ (by exact ⟨rfl,trivial⟩) Ts ?_
 · exact ⟨Nat.zero_le _,hl⟩
 rintro ⟨k,ja,jc⟩ ⟨hle_k,hcv⟩
 try simp only [Ca,Na]
 have hcl:=hcv.len
 refine qL (qC (.q 0 (.done)) Kr ?_)
 refine qD J J J J J (sK _ _ _ _) ?_
 refine qS (qQ (qL ?_))
 refine qF J (fun hlt=>?_) (fun hlt=>?_)
 ·
  obtain ⟨x,hx⟩:=cX (l:=os) (i:=k) Om
  have hxM:=hos _ (List.mem_of_getElem? hx)
  have hxcv:=hMc _ hxM
  obtain ⟨j,hj⟩:=List.getElem?_of_mem hxM
  obtain ⟨d,da,dc,dl⟩:=x
  simp only at hxcv
  have hdl:=hxcv.len
  refine s_big_take (f:=kf) (L:=M) Tk hj ?_
  refine s_bun ?_
  try simp only [Ca,Na]
  obtain ⟨cur,hcur⟩:∃ c,c=jnA l (os.take k):=⟨_,rfl⟩
  rw [← hcur] at hcv hcl ⊢
  refine qH (qQ (qL (kV (qL (qC (.q 0 (.q 1 (.q 2 (.done)))) Kr ?_)))))
  refine q_idxR (sz:=0) (k:=k) J J J J J υ'218 ζ'94 (hr) hx encP_len (by first | rfl | omega) Om ?_
  intro ib19 io19 _ hd19
  refine q_load J J J J α'94 Tk (hd19 0 (.pointer (some ⟨(d,da,dc,dl).1,0,none⟩)) J) ?_
  refine kF 20 J (v':=.pointer (some ⟨d,0,none⟩)) (by rfl) ?_
  refine qR J J J J (qS (qQ (qL (qC (.q 0 (.q 1 (.q 2 (.q 3 (.q 4 (.q 5 (.q 6 ((.l 7 [] (.done)))))))))) Kr ?_))))
  refine qK J J J J (qK J J J J (qZ J J J J (qG (k:=0) J J J J υ'162 J ζ'159 J ?_)))
  refine qP (j:=0) J J J J α'159 Tk Az (by rfl) ?_
  refine sR J J J J υ'159 ?_
  refine qD J J J J J (b_sub' _ (by exact kY Om Om)) ?_
  have sp_2:=reach_spec b cur dl.length ja cur.length jc Ln Om
  refine qB J J J J J J Tryz.call102 (sp_2) Ts ?_
  rintro ⟨re_a,re_c⟩ -
  try simp only [Ca,Na]
  refine qV (qS (qW [0,6,15,16,17] (e':=[(0,_),(6,_),(15,_),(16,_),(17,_)]) J ?_))
  refine qQ (qL (qC (.q 0 (.q 1 (.q 2 (.q 3 (.q 4 (.q 5 (.done))))))) Kr ?_))
  refine qK J J J J (qZ J J J J (qG (k:=0) J J J J υ'162 J ζ'159 J ?_))
  refine qP (j:=0) J J J J α'159 Tk Az (by rfl) ?_
  refine sR J J J J υ'159 ?_
  refine qK J J J J (qS (qW [0,15,16,17,32,33,34] (e':=[(0,_),(15,_),(16,_),(17,_),(32,_),(33,_),(34,_)]) J ?_))
  refine qQ (kV ?_)
  refine sS (α:=Nat) (fun (i:Nat)=>i≤dl.length) (fun (i:Nat)=>[(34,.int .i64 ((i:Nat):Int))]) (fun (i:Nat)=>[cells b 0 [.slice re_a ((pd cur dl.length).length) re_c],own 1 encU re_a re_c (jnI cur dl i)]) (fun (i:Nat)=>dl.length - i) [0,15,16,17,32,33] (er:=[(0,_),(15,_),(16,_),(17,_),(32,_),(33,_)]) J (0) ?_ (by exact ⟨rfl,trivial⟩) (by (try dsimp only);rw [jnI_zero];(repeat ((with_reducible apply Z2);focus (first | (with_reducible (repeat (first | exact Z0 | apply Z1));done) | (repeat (first | exact Z0 | apply Z1)))));exact Z3) ?_
  · exact Nat.zero_le _
  rintro i hle_i
  try simp only [Ca,Na]
  have hjl:(jnI cur dl i).length=max cur.length dl.length:=jnI_len _ _ _
  have hjp:=pd_len cur dl.length
  refine qL (qC (.q 0 (.done)) Kr ?_)
  refine qD J J J J J (sK _ _ _ _) ?_
  refine qS (qQ (qL ?_))
  refine qF J (fun hli=>?_) (fun hli=>?_)
  ·
   obtain ⟨y,hy⟩:=cX (l:=dl) (i:=i) Om
   have hji:(jnI cur dl i)[i]?=some (cur.getD i 0):=by rw [jnI_get Om,if_neg Om]
   refine qH (qQ (qL (kV (qL (qC (.q 0 (.q 1 (.q 2 (.q 3 (.q 4 (.done)))))) Kr ?_)))))
   refine qK J J J J (cK (sz:=0) (k:=i) (enc:=encU) (xs:=dl) J J J J J υ'159 ζ'97 hy (by first | rfl | omega) Om Tk ?_)
   intro ib37 io37 ha37 hl37 hc37
   refine cQ (v:=(.int .u64 y)) (j:=0) (k':=i) (enc:=encU) (off:=io37) J J J J α'97 ha37 encU_len hy Tk (by first | rfl | exact (Ad _).symm | omega) (by rfl) ?_
   refine qR J J J J (qR J J J J (qS (qW [0,7,8,15,16,17,32,33,34] (e':=[(0,_),(7,_),(8,_),(15,_),(16,_),(17,_),(32,_),(33,_),(34,_)]) J ?_)))
   refine qQ (kM J (.q 0 (.q 1 (.q 2 (.q 3 (.q 4 (.q 5 (.q 6 (.q 7 (.q 8 (.q 9 (.q 10 (.q 11 (.q 12 (.q 13 (.q 14 ((.l 15 [] (.done)))))))))))))))))) Kr ?_)
   refine qK J J J J (qZ J J J J (qG (k:=0) J J J J υ'162 J ζ'159 J ?_))
   refine qP (j:=0) J J J J α'159 Tk Az (by rfl) ?_
   refine qK J J J J (qK J J J J (qZ J J J J (qG (k:=0) J J J J υ'162 J ζ'159 J ?_)))
   refine qP (j:=0) J J J J α'159 Tk Az (by rfl) ?_
   refine qK J J J J (cK (sz:=0) (k:=i) (enc:=encU) (xs:=(jnI cur dl i)) J J J J J υ'159 ζ'97 hji (by first | rfl | omega) Om Tk ?_)
   intro ib49 io49 ha49 hl49 hc49
   refine cQ (v:=(.int .u64 (cur.getD i 0))) (j:=0) (k':=i) (enc:=encU) (off:=io49) J J J J α'97 ha49 encU_len hji Tk (by first | rfl | exact (Ad _).symm | omega) (by rfl) ?_
   refine qK J J J J (q_max J J J J J ?_)
   refine cK (sz:=0) (k:=i) (enc:=encU) (xs:=(jnI cur dl i)) J J J J J υ'159 ζ'97 hji (by first | rfl | omega) Om Tk ?_
   intro ib53 io53 ha53 hl53 hc53
   refine sC (j:=0) (k:=i) (q:=(max (cur.getD i 0) y)) (enc:=encU) (off:=io53) J J J J ζ'97 (us:=[_]) J J J ha53 encU_len hji Tk (by first | rfl | exact (Ad _).symm | omega) (by first | decide | exact Nat.le_of_ble_eq_true J) (by rfl) ?_
   refine qV (qS (qW [0,15,16,17,32,33,34] (e':=[(0,_),(15,_),(16,_),(17,_),(32,_),(33,_),(34,_)]) J ?_))
   refine kG (qQ (qC (.q 0 (.q 1 (.done))) Kr ?_))
   refine qD J J J J J (cF _ (by exact kY Om Om)) ?_
   refine qK J J J J (qS (qQ ?_))
   rw [jnI_next hy]
   refine kZ (x:=i) (i+1) ?_ ?_ ?_ ?_
   · exact by show i+1≤dl.length;omega
   · show dl.length - (i+1) < dl.length - i;omega
   · exact ⟨rfl,rfl,rfl,rfl,rfl,rfl,rfl,trivial⟩
   · (try simp only [Ca,Na]);exact Tf
  refine cS (qY (qY (kK (kG (qQ (qC (.q 0 (.q 1 (.done))) Kr ?_))))))
  refine qD J J J J J (cF _ (by exact kY Om Om)) ?_
  refine qK J J J J (qS (qW [0,15,16,17] (e':=[(0,_),(15,_),(16,_),(17,_)]) J ?_))
  refine qQ ?_
  have hnx:jnA l (os.take (k+1))=jn cur dl:=by rw [jnA_next hx,← hcur]
  have hje:jnI cur dl i=jnA l (os.take (k+1)):=by rw [hnx];exact jnI_end hcv Om
  have hjl2:(pd cur dl.length).length=(jnA l (os.take (k+1))).length:=by rw [hnx,pd_len,jn_len]
  refine cP (A:=own 1 encU re_a re_c (jnI cur dl i)) Td ?_
  refine cL (Γ':=own 1 encU re_a re_c (jnA l (os.take (k+1)))::_) (fun _ h=>(by rw [← hje];exact h)) ?_
  refine cP (A:=cells b 0 [.slice re_a ((pd cur dl.length).length) re_c]) Td ?_
  refine cL (Γ':=cells b 0 [.slice re_a ((jnA l (os.take (k+1))).length) re_c]::_) (fun _ h=>(by rw [← hjl2];exact h)) ?_
  refine cL (fun _ h=>Bun.fold ((by (repeat ((with_reducible apply Z2);focus (first | (with_reducible (repeat (first | exact Z0 | apply Z1));done) | (repeat (first | exact Z0 | apply Z1)))));exact Z3:Takes _ [cells d 0 [.slice da dl.length dc],own 1 encU da dc dl] _) _ h)) ?_
  refine s_big_put (f:=kf) (L:=M) (i:=j) (y:=(d,da,dc,dl)) Ts (List.getElem?_eq_some_iff.1 hj).1 ?_
  rw [set_same hj]
  refine kZ (x:=(k,ja,jc)) ((k+1,re_a,re_c)) ?_ ?_ ?_ ?_
  · try dsimp only
    exact ⟨by omega,by rw [hnx];exact jn_cv hcv hxcv⟩
  · show m - (k+1) < m - k;omega
  · exact ⟨rfl,rfl,rfl,rfl,trivial⟩
  · (try simp only [Ca,Na]);exact Tf
 refine cS (qY (qY (kK (qQ (qL (qC (.q 0 (.done)) Kr ?_))))))
 refine qR J J J J (qS (qW [4] (e':=[(4,_)]) J ?_))
 refine qQ (qJ ?_)
 obtain rfl:k=m:=by omega
 rw [List.take_of_length_le Om]
 refine cR J J ((ja,jc)) (by first | rfl | (first | rfl | (congr 1;done) | (congr 1 <;> first | rfl | omega | (simp;done) | (simp;omega)))) (by trivial) ?_
 exact Tf
/-- How two vectors stand. -/
def agn (l m:List Int):Int:=if LeqL l m then (if LeqL m l then 1 else 2) else (if LeqL m l then 3 else 4)
end Go.Ab.Vc
set_option linter.unusedVariables false
set_option linter.unusedSimpArgs false
set_option maxRecDepth 100000
namespace Go.Ab.Vc
open Go Go.Proofs Go.Ab
theorem g_out {l:List Int} {i:Nat} (h:l.length≤i):l.getD i 0=0:=by simp only [List.getD_eq_getElem?_getD];rw [List.getElem?_eq_none h];rfl
/-- What is met so far, up to thread i. -/
def mtI (l m:List Int) (i:Nat):List Int:=(List.range l.length).map fun k=>if k < i then min (l.getD k 0) (m.getD k 0) else l.getD k 0
/-- The meet of two. -/
def mt (l m:List Int):List Int:=tr (mtI l m l.length)
def mtA (l:List Int) (os:List K):List Int:=os.foldl (fun l x=>mt l x.2.2.2) l
/-- The clocks that fit. -/
def fitL (xs:List Int):List Int:=(xs.take 300).map (fun x=>x % 281474976710656)
theorem get_spec (b:Nat) (l:List Int) (ao:Option Addr) (n cap:Nat) (hn:l.length=n) (i:Nat):Spec Tryz.prog 58 [.pointer (some ⟨b,0,none⟩),.int .i64 ((i:Nat):Int)] [cells b 0 [.slice ao n cap],own 1 encU ao cap l] (fun (_:Unit)=>.int .u64 (l.getD i 0)) (fun _=>True) (fun _=>[cells b 0 [.slice ao n cap],own 1 encU ao cap l]):=by
 refine kS (n:=27) Tryz.func58 J J J ?_
 intro Γ w0
 simp only [argE,Ca,Na,Zd,Nat.reduceAdd]
 refine qL (qC (.q 0 (.done)) Kr ?_)
 refine qR J J J J (qS (qQ (qL (qL (qC (.q 0 (.q 1 (.q 2 (.q 3 (.q 4 (.q 5 (.q 6 (.q 7 (.q 8 (.q 9 (.q 10 (.q 11 (.q 12 (.q 13 (.q 14 (.done)))))))))))))))) Kr ?_)))))
 refine qK J J J J (cM J J J J υ'94 ?_)
 refine kF 6 J (v':=.bool false) J ?_
 refine qK J J J J (qK J J J J (qD J J J J J (sK _ _ _ _) ?_))
 refine kD J J J J J (qK J J J J ?_)
 refine cV 11 J (fun hg=>by exfalso;omega) (fun hg=>?_)
 refine qK J J J J (qK J J J J (qZ J J J J (qG (k:=0) J J J J υ'162 J ζ'159 J ?_)))
 refine qP (j:=0) J J J J α'159 Tk Az (by rfl) ?_
 refine sR J J J J υ'159 ?_
 refine qD J J J J J (b_geq _ _ _ _) ?_
 refine kD J J J J J (qS (qW [0,1,19] (e':=[(0,_),(1,_),(19,_)]) J ?_))
 refine qQ ?_
 refine qF J (fun hge=>?_) (fun hge=>?_)
 ·
  refine qL (qC (.q 0 (.done)) Kr ?_)
  refine qR J J J J (qS (qQ (qJ (qN (cR J J (()) (by rw [g_out Om]) (by trivial) ?_)))))
  exact Tf
 obtain ⟨x,hx⟩:=cX (l:=l) (i:=i) Om
 refine qH (qQ (qL (qC (.q 0 (.q 1 (.q 2 (.q 3 (.q 4 (.q 5 (.q 6 (.q 7 (.done))))))))) Kr ?_)))
 refine qK J J J J (qZ J J J J (qG (k:=0) J J J J υ'162 J ζ'159 J ?_))
 refine qP (j:=0) J J J J α'159 Tk Az (by rfl) ?_
 refine qK J J J J (cK (sz:=0) (k:=i) (enc:=encU) (xs:=l) J J J J J υ'159 ζ'97 hx (by first | rfl | omega) Om Tk ?_)
 intro ib25 io25 ha25 hl25 hc25
 refine cQ (v:=(.int .u64 x)) (j:=0) (k':=i) (enc:=encU) (off:=io25) J J J J α'97 ha25 encU_len hx Tk (by first | rfl | exact (Ad _).symm | omega) (by rfl) ?_
 refine qR J J J J (qS (qW [4] (e':=[(4,_)]) J ?_))
 refine qQ (qJ (cR J J (()) (by rw [getD_mem hx]) (by trivial) ?_))
 exact Tf
theorem copy_spec (b:Nat) (l:List Int) (ao:Option Addr) (n cap:Nat) (hn:l.length=n) (hb:n≤4000000000):Spec Tryz.prog 65 [.pointer (some ⟨b,0,none⟩)] [cells b 0 [.slice ao n cap],own 1 encU ao cap l] (fun (r:Nat × Option Addr × Nat)=>.pointer (some ⟨r.1,0,none⟩)) (fun r=>True) (fun r=>[cells b 0 [.slice ao n cap],own 1 encU ao cap l,cells r.1 0 [.slice r.2.1 n r.2.2],own 1 encU r.2.1 r.2.2 l]):=by
 refine kS (n:=21) Tryz.func65 J J J ?_
 intro Γ w0
 simp only [argE,Ca,Na,Zd,Nat.reduceAdd]
 refine qL (qC (.q 0 (.done)) Kr ?_)
 refine qR J J J J (qS (qQ (qL (qL (qC (.q 0 (.q 1 (.done))) Kr ?_)))))
 refine qK J J J J (cM J J J J υ'94 ?_)
 refine kF 5 J (v':=.bool false) J ?_
 refine qS (qQ (kN J ?_))
 refine qH (qQ (qL (qC (.q 0 (.q 1 (.q 2 (.q 3 (.q 4 ((.l 5 [] (.q 6 (.done))))))))) Kr ?_)))
 refine qK J J J J (qZ J J J J (qG (k:=0) J J J J υ'162 J ζ'159 J ?_))
 refine qP (j:=0) J J J J α'159 Tk Az (by rfl) ?_
 refine sR J J J J υ'159 ?_
 refine l_make (sz:=1) (enc:=encU) (len:=n) (cap:=n) (0) J J J J J (by first | rfl | omega) (by first | rfl | omega) υ'159 τ'97 J J J (by decide) Om Om (by show 8*_≤_;omega) (by rfl) (encU_len) ?_
 intro b11
 refine qV (qR J J J J (qS (qW [0,3] (e':=[(0,_),(3,_)]) J ?_)))
 refine qQ (qL (qC (.q 0 (.q 1 (.q 2 (.q 3 (.q 4 ((.l 5 [] (.done)))))))) Kr ?_))
 refine qK J J J J (qK J J J J (qZ J J J J (qG (k:=0) J J J J υ'162 J ζ'159 J ?_)))
 refine qP (j:=0) J J J J α'159 Tk Az (by rfl) ?_
 refine cP (A:=own 1 encU ao cap l) Tk ?_
 refine own_fc fun f_1a f_1b f_1c=>?_
 refine l_copy (sz:=1) (enc:=encU) (xs:=(List.replicate n 0)) (ys:=l) (A:=own 1 encU ao cap l) J J J J J υ'159 ζ'97 (by decide) encU_len encU_one Tk Tk (rC encU_len (fun h=>(f_1b h).1) f_1c) Ln (by exact hn) Om ?_
 rw [show (l++(List.replicate n 0).drop n)=l from by simp]
 refine qV (qS (qW [3] (e':=[(3,_)]) J ?_))
 refine qQ (qL (qC (.q 0 (.q 1 ((.l 2 [] (.q 3 (.done)))))) Kr ?_))
 refine qK J J J J (kB J J J J (vs:=[_]) (kQ υ'162 Tryz.zeroValue162 (ps:=[(0,1)]) ⟨rfl,ζ'159,trivial⟩ rfl) ?_)
 refine sG J J J J (us:=[_]) J ?_
 intro b20
 refine qV (qR J J J J (qS (qW [2] (e':=[(2,_)]) J ?_)))
 refine qQ (qJ (cR J J ((b20,some ⟨b11,0,none⟩,n)) (by first | rfl | (first | rfl | (congr 1;done) | (congr 1 <;> first | rfl | omega | (simp;done) | (simp;omega)))) (by trivial) ?_))
 exact Tf
end Go.Ab.Vc
set_option linter.unusedVariables false
set_option linter.unusedSimpArgs false
set_option maxRecDepth 100000
namespace Go.Ab.Vc
open Go Go.Proofs Go.Ab
theorem rds_take {α:Type} {A:HProp} {ao:Option Addr} {sz:Nat} {enc:α→List Value} {xs:List α} (h:RdS A ao (xs.flatMap enc)) (hsz:∀ x,(enc x).length=sz) (k:Nat):RdS A ao ((xs.take k).flatMap enc):=by
  rcases h with h | ⟨b,o,h1,h2⟩
  · left
    rw [← List.take_append_drop k xs,List.flatMap_append,List.append_eq_nil_iff] at h
    exact h.1
  · refine .inr ⟨b,o,h1,fun i v hv=>h2 i v ?_⟩
    rw [← List.take_append_drop k xs,List.flatMap_append,List.getElem?_append_left]
    · exact hv
    · exact (List.getElem?_eq_some_iff.1 hv).1
end Go.Ab.Vc
set_option linter.unusedVariables false
set_option linter.unusedSimpArgs false
set_option maxRecDepth 100000
namespace Go.Ab.Vc
open Go Go.Proofs Go.Ab
/-- A clock set. -/
def stL (l:List Int) (i:Nat) (v:Int):List Int:=tr ((pd l (i+1)).set i v)
theorem stL_g (l:List Int) (i:Nat) (v:Int) (k:Nat):(stL l i v).getD k 0=if k=i then v else l.getD k 0:=by
  rw [stL,tr_g]
  have hp:i < (pd l (i+1)).length:=by rw [pd_len];omega
  by_cases hk:k=i
  · subst hk;rw [if_pos rfl];exact getD_mem (List.getElem?_set_self hp)
  · rw [if_neg hk,← pd_g l (i+1) k];simp only [List.getD_eq_getElem?_getD];rw [List.getElem?_set_ne (Ne.symm hk)]
theorem pd_cv {l:List Int} (hl:CV l) (m:Nat):∀ x∈pd l m,0≤x∧x≤maxC:=fun x hx=>by
  rcases List.mem_append.1 hx with h | h
  · exact hl.rng x h
  · rw [(List.mem_replicate.1 h).2];decide
theorem stL_cv {l:List Int} {i:Nat} {v:Int} (hl:CV l) (hi:i < 65535) (h0:0≤v) (h1:v≤maxC):CV (stL l i v):=by
  have h2:=hl.len
  refine tr_cv (by rw [List.length_set,pd_len];omega) fun x hx=>?_
  rcases List.mem_or_eq_of_mem_set hx with h | rfl
  · exact pd_cv hl _ x h
  · exact ⟨h0,h1⟩
/-- A clock one on. -/
def icL (l:List Int) (i:Nat):List Int:=(pd l (i+1)).set i (l.getD i 0+1)
theorem icL_g (l:List Int) (i k:Nat):(icL l i).getD k 0=if k=i then l.getD i 0+1 else l.getD k 0:=by
  have hp:i < (pd l (i+1)).length:=by rw [pd_len];omega
  rw [icL]
  by_cases hk:k=i
  · subst hk;rw [if_pos rfl];exact getD_mem (List.getElem?_set_self hp)
  · rw [if_neg hk,← pd_g l (i+1) k];simp only [List.getD_eq_getElem?_getD];rw [List.getElem?_set_ne (Ne.symm hk)]
theorem icL_cv {l:List Int} {i:Nat} (hl:CV l) (hi:i < 65535) (h1:l.getD i 0 < maxC):CV (icL l i):=by
  have h2:=hl.len
  have h3:=g_rng hl.rng (by decide) i
  have hlen:(icL l i).length=max l.length (i+1):=by rw [icL,List.length_set,pd_len]
  refine ⟨.inr ?_,by omega,fun x hx=>?_⟩
  · rw [hlen,icL_g]
    split
    · omega
    · rename_i h
      have h5:max l.length (i+1) - 1=l.length - 1:=by omega
      rw [h5]
      rcases hl.tr with e | e
      · rw [e] at h;simp at h
      · exact e
  · rcases List.mem_or_eq_of_mem_set hx with h | rfl
    · exact pd_cv hl _ x h
    · omega
theorem wrong_spec (b i:Nat) (hi:i < 65535):Spec Tryz.prog 101 [.pointer (some ⟨b,0,none⟩),.int .i64 ((i:Nat):Int)] [] (fun (_:Unit)=>.int .i64 0) (fun _=>True) (fun _=>[]):=by
 refine kS (n:=15) Tryz.func101 J J J ?_
 intro Γ w0
 simp only [argE,Ca,Na,Zd,Nat.reduceAdd]
 refine qL (qC (.q 0 (.done)) Kr ?_)
 refine qR J J J J (qS (qQ (qL (kV (qL (qC (.q 0 (.q 1 (.q 2 (.done)))) Kr ?_))))))
 refine qK J J J J (cM J J J J υ'94 ?_)
 refine kF 7 J (v':=.bool false) J ?_
 refine qR J J J J (qS (qW [1,5] (e':=[(1,_),(5,_)]) J ?_))
 refine qQ (kN J ?_)
 refine qL (qC (.q 0 (.q 1 (.q 2 (.q 3 (.q 4 (.q 5 (.q 6 (.done)))))))) Kr ?_)
 refine qK J J J J (qD J J J J J (sK _ _ _ _) ?_)
 refine qK J J J J ?_
 refine cV 11 J (fun hg=>by exfalso;omega) (fun hg=>?_)
 refine qK J J J J (qD J J J J J (b_geq _ _ _ _) ?_)
 refine kD J J J J J (qR J J J J (qS (qW [8] (e':=[(8,_)]) J ?_)))
 refine qQ ?_
 refine qF J (fun hg=>by exfalso;omega) (fun hg=>?_)
 refine qH (kG (qQ (qL (qC (.q 0 (.done)) Kr ?_))))
 refine qR J J J J (qS (qQ (qJ (cR J J (()) (by first | rfl | (first | rfl | (congr 1;done) | (congr 1 <;> first | rfl | omega | (simp;done) | (simp;omega)))) (by trivial) ?_))))
 exact Tf
theorem set_spec (b:Nat) (l:List Int) (ao:Option Addr) (n cap:Nat) (hn:l.length=n) (hl:CV l) (i:Nat) (hi:i < 65535) (v:Int) (hv0:0≤v) (hv1:v≤maxC):Spec Tryz.prog 68 [.pointer (some ⟨b,0,none⟩),.int .i64 ((i:Nat):Int),.int .u64 v] [cells b 0 [.slice ao n cap],own 1 encU ao cap l] (fun (r:Option Addr × Nat)=>.int .i64 0) (fun r=>True) (fun r=>[cells b 0 [.slice r.1 (stL l i v).length r.2],own 1 encU r.1 r.2 (stL l i v)]):=by
 refine kS (n:=28) Tryz.func68 J J J ?_
 intro Γ w0
 simp only [argE,Ca,Na,Zd,Nat.reduceAdd]
 have hll:=hl.len
 refine qL (qC (.q 0 (.done)) Kr ?_)
 refine qR J J J J (qS (qQ (qL (qL (qC (.q 0 (.q 1 ((.l 2 [] (.q 3 (.done)))))) Kr ?_)))))
 refine qK J J J J (qK J J J J ?_)
 have sp_1:=wrong_spec b i Om
 refine qB J J J J J J Tryz.call101 (sp_1) Ts ?_
 rintro ⟨⟩ -
 try simp only [Ca,Na]
 refine qV (qR J J J J (qS (qW [0,1,2,7] (e':=[(0,_),(1,_),(2,_),(7,_)]) J ?_)))
 refine qQ (qL (qC (.q 0 (.q 1 (.done))) Kr ?_))
 refine qK J J J J (qD J J J J J (b_neq _ _ _ _) ?_)
 refine kF 12 J (v':=.bool false) (by first | rfl | simp) ?_
 refine qS (qQ (kN J ?_))
 refine qH (qQ (qL (qL (qC (.q 0 (.q 1 (.done))) Kr ?_))))
 refine qK J J J J (qD J J J J J (b_gtr _ _ _ _) ?_)
 refine qS (qW [0,1,2,15] (e':=[(0,_),(1,_),(2,_),(15,_)]) J ?_)
 refine qQ ?_
 refine qF J (fun hg=>by exfalso;simp only [maxC] at hv1;omega) (fun hg=>?_)
 refine qH (qQ (qL (qC (.q 0 (.q 1 ((.l 2 [] (.done))))) Kr ?_)))
 refine qK J J J J (qK J J J J (kF 17 J (v':=.int .i64 ((((i+1:Nat)):Int) - 1)) (by congr 1;omega) ?_))
 have sp_2:=reach_spec b l (i+1) ao n cap Ln Om
 refine qB J J J J J J Tryz.call102 (sp_2) Ts ?_
 rintro ⟨re_a,re_c⟩ -
 try simp only [Ca,Na]
 refine qV (qS (qW [0,1,2] (e':=[(0,_),(1,_),(2,_)]) J ?_))
 refine qQ (qL ?_)
 have hpl:=pd_len l (i+1)
 obtain ⟨x,hx⟩:=cX (l:=pd l (i+1)) (i:=i) Om
 refine qC (.q 0 (.q 1 (.q 2 (.q 3 (.q 4 (.q 5 (.q 6 ((.l 7 [] (.done)))))))))) Kr ?_
 refine qK J J J J (qZ J J J J (qG (k:=0) J J J J υ'162 J ζ'159 J ?_))
 refine qP (j:=0) J J J J α'159 Tk Az (by rfl) ?_
 refine qK J J J J (qK J J J J (cK (sz:=0) (k:=i) (enc:=encU) (xs:=(pd l (i+1))) J J J J J υ'159 ζ'97 hx (by first | rfl | omega) Om Tk ?_))
 intro ib25 io25 ha25 hl25 hc25
 refine sC (j:=0) (k:=i) (q:=v) (enc:=encU) (off:=io25) J J J J ζ'97 (us:=[_]) J J J ha25 encU_len hx Tk (by first | rfl | exact (Ad _).symm | omega) (by first | decide | exact Nat.le_of_ble_eq_true J) (by rfl) ?_
 refine qV (qS (qW [0] (e':=[(0,_)]) J ?_))
 refine qQ (qL (qC (.q 0 ((.l 1 [] (.done)))) Kr ?_))
 refine qK J J J J ?_
 have sp_3:=trim_spec b ((pd l (i+1)).set i v) re_a ((pd l (i+1)).length) re_c (by rw [List.length_set]) Om
 refine qB J J J J J J Tryz.call73 (sp_3) Ts ?_
 rintro ⟨⟩ -
 try simp only [Ca,Na]
 refine qV (qS (qQ (qL (qC (.q 0 (.done)) Kr ?_))))
 refine qR J J J J (qS (qQ (qJ (cR J J ((re_a,re_c)) (by first | rfl | (first | rfl | (congr 1;done) | (congr 1 <;> first | rfl | omega | (simp;done) | (simp;omega)))) (by trivial) ?_))))
 exact Tf
theorem inc_spec (b:Nat) (l:List Int) (ao:Option Addr) (n cap:Nat) (hn:l.length=n) (hl:CV l) (i:Nat) (hi:i < 65535) (hlt:l.getD i 0 < maxC):Spec Tryz.prog 66 [.pointer (some ⟨b,0,none⟩),.int .i64 ((i:Nat):Int)] [cells b 0 [.slice ao n cap],own 1 encU ao cap l] (fun (r:Option Addr × Nat)=>.tuple #[.int .u64 (l.getD i 0+1),.int .i64 0]) (fun r=>True) (fun r=>[cells b 0 [.slice r.1 (icL l i).length r.2],own 1 encU r.1 r.2 (icL l i)]):=by
 refine kS (n:=36) Tryz.func66 J J J ?_
 intro Γ w0
 simp only [argE,Ca,Na,Zd,Nat.reduceAdd]
 have hll:=hl.len
 refine qL (qC (.q 0 (.q 1 (.done))) Kr ?_)
 refine qR J J J J (qR J J J J (qS (qQ (qL (qL (qC (.q 0 (.q 1 ((.l 2 [] (.q 3 (.done)))))) Kr ?_))))))
 refine qK J J J J (qK J J J J ?_)
 have sp_1:=wrong_spec b i Om
 refine qB J J J J J J Tryz.call101 (sp_1) Ts ?_
 rintro ⟨⟩ -
 try simp only [Ca,Na]
 refine qV (qR J J J J (qS (qW [0,1,6] (e':=[(0,_),(1,_),(6,_)]) J ?_)))
 refine qQ (qL (qC (.q 0 (.q 1 (.done))) Kr ?_))
 refine qK J J J J (qD J J J J J (b_neq _ _ _ _) ?_)
 refine kF 11 J (v':=.bool false) (by first | rfl | simp) ?_
 refine qS (qQ (kN J ?_))
 refine qH (qQ (qL (qL (qC (.q 0 (.q 1 ((.l 2 [] (.q 3 (.done)))))) Kr ?_))))
 refine qK J J J J (qK J J J J ?_)
 have sp_2:=get_spec b l ao n cap Ln i
 refine qB J J J J J J κ'58 (sp_2) Ts ?_
 rintro ⟨⟩ -
 try simp only [Ca,Na]
 refine qV (qD J J J J J (cZ _ _ _ _) ?_)
 refine qS (qW [0,1,16] (e':=[(0,_),(1,_),(16,_)]) J ?_)
 refine qQ ?_
 refine qF J (fun hg=>by exfalso;simp only [maxC] at hlt;omega) (fun hg=>?_)
 refine qH (qQ (qL (qC (.q 0 (.q 1 ((.l 2 [] (.done))))) Kr ?_)))
 refine qK J J J J (qK J J J J (kF 18 J (v':=.int .i64 ((((i+1:Nat)):Int) - 1)) (by congr 1;omega) ?_))
 have sp_3:=reach_spec b l (i+1) ao n cap Ln Om
 refine qB J J J J J J Tryz.call102 (sp_3) Ts ?_
 rintro ⟨re_a,re_c⟩ -
 try simp only [Ca,Na]
 refine qV (qS (qW [0,1] (e':=[(0,_),(1,_)]) J ?_))
 refine qQ (qL ?_)
 have hpl:=pd_len l (i+1)
 obtain ⟨x,hx⟩:=cX (l:=pd l (i+1)) (i:=i) Om
 have hxe:x=l.getD i 0:=by rw [← pd_g l (i+1) i,getD_mem hx]
 have hgr:=g_rng hl.rng (by decide) i
 refine qC (.q 0 (.q 1 (.q 2 (.q 3 (.q 4 (.q 5 (.q 6 (.q 7 (.q 8 ((.l 9 [] (.done)))))))))))) Kr ?_
 refine qK J J J J (qZ J J J J (qG (k:=0) J J J J υ'162 J ζ'159 J ?_))
 refine qP (j:=0) J J J J α'159 Tk Az (by rfl) ?_
 refine qK J J J J (cK (sz:=0) (k:=i) (enc:=encU) (xs:=(pd l (i+1))) J J J J J υ'159 ζ'97 hx (by first | rfl | omega) Om Tk ?_)
 intro ib25 io25 ha25 hl25 hc25
 refine cQ (v:=(.int .u64 x)) (j:=0) (k':=i) (enc:=encU) (off:=io25) J J J J α'97 ha25 encU_len hx Tk (by first | rfl | exact (Ad _).symm | omega) (by rfl) ?_
 refine qD J J J J J (cF _ (by exact fits_u64 Om (by simp only [maxC] at hgr;omega))) ?_
 refine cK (sz:=0) (k:=i) (enc:=encU) (xs:=(pd l (i+1))) J J J J J υ'159 ζ'97 hx (by first | rfl | omega) Om Tk ?_
 intro ib28 io28 ha28 hl28 hc28
 refine sC (j:=0) (k:=i) (q:=(x+1)) (enc:=encU) (off:=io28) J J J J ζ'97 (us:=[_]) J J J ha28 encU_len hx Tk (by first | rfl | exact (Ad _).symm | omega) (by first | decide | exact Nat.le_of_ble_eq_true J) (by rfl) ?_
 refine qV (qS (qW [0,1] (e':=[(0,_),(1,_)]) J ?_))
 refine qQ (qL ?_)
 rw [show (pd l (i+1)).set i (x+1)=icL l i from by rw [icL,hxe]]
 have hx2:(icL l i)[i]?=some (x+1):=by rw [icL,List.getElem?_set_self Om,hxe]
 have hil:(icL l i).length=(pd l (i+1)).length:=by rw [icL,List.length_set]
 refine qC (.q 0 (.q 1 (.q 2 (.q 3 (.q 4 (.q 5 (.q 6 (.q 7 (.q 8 (.done)))))))))) Kr ?_
 refine qK J J J J (qZ J J J J (qG (k:=0) J J J J υ'162 J ζ'159 J ?_))
 refine qP (j:=0) J J J J α'159 Tk Az (by rfl) ?_
 refine qK J J J J (cK (sz:=0) (k:=i) (enc:=encU) (xs:=(icL l i)) J J J J J υ'159 ζ'97 hx2 (by first | rfl | omega) Om Tk ?_)
 intro ib34 io34 ha34 hl34 hc34
 refine cQ (v:=(.int .u64 (x+1))) (j:=0) (k':=i) (enc:=encU) (off:=io34) J J J J α'97 ha34 encU_len hx2 Tk (by first | rfl | exact (Ad _).symm | omega) (by rfl) ?_
 refine qR J J J J (qR J J J J (qS (qW [4,5] (e':=[(4,_),(5,_)]) J ?_)))
 refine qQ (qJ (cP (A:=cells b 0 [.slice re_a (pd l (i+1)).length re_c]) Td ?_))
 refine cL (Γ':=cells b 0 [.slice re_a (icL l i).length re_c]::_) (fun _ h=>(by rw [hil];exact h)) ?_
 refine ret2 J J J ((re_a,re_c)) (by rw [hxe]) (by trivial) ?_
 exact Tf
end Go.Ab.Vc
set_option linter.unusedVariables false
set_option linter.unusedSimpArgs false
set_option maxRecDepth 100000
namespace Go.Ab.Dj
open Go Go.Proofs Go.Ab Go.Ab.Fe Go.Ab.Vc
abbrev evA (a:Option Addr):Value:=.pointer a
abbrev evH (x:Option Addr × Int):Value:=.agg #[.pointer x.1,.int .i64 x.2]
/-- A vector behind a pointer. -/
def vecA (a:Option Addr) (l:List Int):HProp:=fun h=>∃ b ao cap,a=some ⟨b,0,none⟩∧Sat [cells b 0 [.slice ao l.length cap],own 1 encU ao cap l] h
/-- A vector or nil. -/
def optA (a:Option Addr):Option (List Int)→HProp
  | none=>fun _=>a=none
  | some l=>vecA a l
def heldA (v:Option Addr × Int) (t:List Int × Int):HProp:=fun h=>v.2=t.2∧vecA v.1 t.1 h
theorem sat_free {A:HProp} {Γ:List HProp} {h:Hp} (a:A (fun _=>none)) (s:Sat Γ h):Sat (A::Γ) h:=⟨fun _=>none,fun _ _ x=>by simp at x,a,s.mono fun _ _ x=>sM.2 ⟨rfl,x⟩⟩
section
variable {w0:World} {ds:List Deferred} {n:Nat} {e:Env} {Γ Γ':List HProp} {X:Act→World→Prop} {a:Option Addr} {l:List Int}
theorem s_vec (tk:Take Γ (vecA a l) Γ') (k:∀ b ao cap,a=some ⟨b,0,none⟩→Le (St w0 ds n e (cells b 0 [.slice ao l.length cap]::own 1 encU ao cap l::Γ')) X):Le (St w0 ds n e Γ) X:=fun x w s=>by
  obtain ⟨h1,l1,⟨b,ao,cap,ha,a1⟩,s1⟩:=tk _ s.heap
  exact k b ao cap ha x w ⟨s.defers,s.size,s.env,Bun.unfold ⟨h1,l1,a1,s1⟩,s.amb⟩
theorem s_vecF (b:Nat) (ao:Option Addr) (cap:Nat) (l:List Int) (tk:Takes Γ [cells b 0 [.slice ao l.length cap],own 1 encU ao cap l] Γ') (k:Le (St w0 ds n e (vecA (some ⟨b,0,none⟩) l::Γ')) X):Le (St w0 ds n e Γ) X:=cL (fun h s=>by
  obtain ⟨h1,l1,a1,s1⟩:=Bun.fold (tk h s)
  exact ⟨h1,l1,⟨b,ao,cap,rfl,a1⟩,s1⟩) k
theorem s_opt {m:Option (List Int)} (tk:Take Γ (optA a m) Γ') (ha:a≠none) (k:∀ b ao cap l,m=some l→a=some ⟨b,0,none⟩→Le (St w0 ds n e (cells b 0 [.slice ao l.length cap]::own 1 encU ao cap l::Γ')) X):Le (St w0 ds n e Γ) X:=fun x w s=>by
  obtain ⟨h1,l1,a1,s1⟩:=tk _ s.heap
  cases m with
  | none=>exact absurd a1 ha
  | some l =>
    obtain ⟨b,ao,cap,hb,a1⟩:=a1
    exact k b ao cap l J hb x w ⟨s.defers,s.size,s.env,Bun.unfold ⟨h1,l1,a1,s1⟩,s.amb⟩
theorem s_opt_nil {m:Option (List Int)} (tk:Take Γ (optA a m) Γ') (ha:a=none) (k:m=none→Le (St w0 ds n e (optA a m::Γ')) X):Le (St w0 ds n e Γ) X:=fun x w s=>by
  have s2:=tk _ s.heap
  obtain ⟨h1,l1,a1,s1⟩:=s2
  cases m with
  | none=>exact k rfl x w ⟨s.defers,s.size,s.env,⟨h1,l1,a1,s1⟩,s.amb⟩
  | some l=>obtain ⟨b,ao,cap,hb,-⟩:=a1;rw [ha] at hb;cases hb
theorem s_optF {l:List Int} (tk:Take Γ (vecA a l) Γ') (k:Le (St w0 ds n e (optA a (some l)::Γ')) X):Le (St w0 ds n e Γ) X:=cL tk k
variable {κ:Type} [DecidableEq κ] {F:κ→Option (Option Addr)} {T:κ→Option (List Int)} {S:List κ}
theorem s_rest_opt (k:κ) (tk:Take Γ (rest vecA F T S) Γ') (hk:k ∉ S) (k1:(T k).isSome=(F k).isSome→Le (St w0 ds n e (optA ((F k).getD none) (T k)::rest vecA F T (k::S)::Γ')) X):Le (St w0 ds n e Γ) X:=fun x w s=>by
  cases hT:T k with
  | none =>
    obtain ⟨hv,h1,l1,a1,s1⟩:=rest_miss hk hT (tk _ s.heap)
    rw [hT] at k1
    exact k1 (by rw [hv];rfl) x w ⟨s.defers,s.size,s.env,sat_free (show optA ((F k).getD none) none _ by rw [hv];rfl) ⟨h1,l1,a1,s1⟩,s.amb⟩
  | some l =>
    obtain ⟨v,hv,s1⟩:=rest_take hk hT (tk _ s.heap)
    rw [hT] at k1
    exact k1 (by rw [hv];rfl) x w ⟨s.defers,s.size,s.env,by rw [hv];exact s1,s.amb⟩
theorem rest_back {k:κ} {h:Hp} (hk:k ∉ S) (hs:(T k).isSome=(F k).isSome) (s:Sat (optA ((F k).getD none) (T k)::rest vecA F T (k::S)::Γ) h):Sat (rest vecA F T S::Γ) h:=by
  cases hT:T k with
  | none =>
    have hF:F k=none:=by rw [hT] at hs;simpa using hs.symm
    obtain ⟨h1,l1,-,s1⟩:=s
    exact rest_none hF (fun _ _ _=>rfl) hT (fun _ _ _=>rfl) (s1.mono (Hmin_le _ _))
  | some l =>
    rw [hT] at s hs
    cases hF:F k with
    | none=>rw [hF] at hs;simp at hs
    | some v =>
      rw [hF] at s
      exact rest_put hk hF (fun _ _ _=>rfl) hT (fun _ _ _=>rfl) s
theorem s_opt_back (k:κ) (tk:Takes Γ [optA ((F k).getD none) (T k),rest vecA F T (k::S)] Γ') (hk:k ∉ S) (hs:(T k).isSome=(F k).isSome) (k1:Le (St w0 ds n e (rest vecA F T S::Γ')) X):Le (St w0 ds n e Γ) X:=cL (fun h s=>rest_back hk hs (tk h s)) k1
variable {G:κ→Option (Option Addr × Int)} {U:κ→Option (List Int × Int)}
theorem s_rest_optH (k:κ) (tk:Take Γ (rest heldA G U S) Γ') (hk:k ∉ S) (k1:Le (St w0 ds n e (optA ((G k).getD (none,0)).1 ((U k).map (·.1))::rest heldA G U (k::S)::Γ')) X):Le (St w0 ds n e Γ) X:=fun x w s=>by
  cases hT:U k with
  | none =>
    obtain ⟨hv,s1⟩:=rest_miss hk hT (tk _ s.heap)
    rw [hT] at k1
    exact k1 x w ⟨s.defers,s.size,s.env,sat_free (show optA ((G k).getD (none,0)).1 none _ by rw [hv];rfl) s1,s.amb⟩
  | some p =>
    obtain ⟨v,hv,s1⟩:=rest_take hk hT (tk _ s.heap)
    rw [hT] at k1
    obtain ⟨h1,l1,⟨a1,a2⟩,s2⟩:=s1
    exact k1 x w ⟨s.defers,s.size,s.env,⟨h1,l1,by rw [hv];exact a2,s2⟩,s.amb⟩
theorem s_held {v:Option Addr × Int} {t:List Int × Int} (tk:Take Γ (heldA v t) Γ') (k:v.2=t.2→Le (St w0 ds n e (vecA v.1 t.1::Γ')) X):Le (St w0 ds n e Γ) X:=fun x w s=>by
  obtain ⟨h1,l1,⟨a1,a2⟩,s1⟩:=tk _ s.heap
  exact k a1 x w ⟨s.defers,s.size,s.env,⟨h1,l1,a2,s1⟩,s.amb⟩
theorem s_heldF (v:Option Addr × Int) (t:List Int × Int) (tk:Take Γ (vecA v.1 t.1) Γ') (hv:v.2=t.2) (k:Le (St w0 ds n e (heldA v t::Γ')) X):Le (St w0 ds n e Γ) X:=cL (fun h s=>by
  obtain ⟨h1,l1,a2,s1⟩:=tk h s
  exact ⟨h1,l1,⟨hv,a2⟩,s1⟩) k
end
/-- What the threads know: the checker, the threads' vectors, the locks', the volatiles', the rounds' and how many have not left them. -/
structure VS where
  ck:CS
  th:Int→Option (List Int)
  lk:Int→Option (List Int)
  vo:Int→Option (List Int)
  rd:Int × Int→Option (List Int × Int)
def mgF (m:Option (List Int)) (l:List Int):List Int:=match m with | some q=>jn l q | none=>l
def thF (x:VS) (t:Int):List Int:=(x.th t).getD []
def rdK (x:VS) (t o:Int):Int × Int:=(o,(stF x.ck t).2.2)
def rdF (x:VS) (r:Int × Int):List Int × Int:=(x.rd r).getD ([],0)
def vnF (x:VS) (k t o:Int):VS :=
  if k=5 then ⟨nxF x.ck k t o,upd x.th t (some (mgF (x.lk o) (thF x t))),x.lk,x.vo,x.rd⟩
  else if k=3 then ⟨nxF x.ck k t o,upd x.th t (some (mgF (x.vo o) (thF x t))),x.lk,x.vo,x.rd⟩
  else if k=8 then ⟨nxF x.ck k t o,upd x.th t (some (mgF (x.th o) (thF x t))),x.lk,x.vo,x.rd⟩
  else if k=10 then ⟨nxF x.ck k t o,upd x.th t (some (jn (thF x t) (rdF x (rdK x t o)).1)),x.lk,x.vo,upd x.rd (rdK x t o) (if (rdF x (rdK x t o)).2 - 1≤0 then none else some ((rdF x (rdK x t o)).1,(rdF x (rdK x t o)).2 - 1))⟩
  else if k=6 then ⟨nxF x.ck k t o,upd x.th t (some (icL (thF x t) t.toNat)),upd x.lk o (some (thF x t)),x.vo,x.rd⟩
  else if k=4 then ⟨nxF x.ck k t o,upd x.th t (some (icL (thF x t) t.toNat)),x.lk,upd x.vo o (some (mgF (x.vo o) (thF x t))),x.rd⟩
  else if k=9 then ⟨nxF x.ck k t o,upd x.th t (some (icL (thF x t) t.toNat)),x.lk,x.vo,upd x.rd (o,(opF x.ck o).1) (some (mgF ((x.rd (o,(opF x.ck o).1)).map (·.1)) (thF x t),x.ck.pa.getD o.toNat 0))⟩
  else if k=7 then ⟨nxF x.ck k t o,upd (upd x.th o (some (stL (thF x t) o.toNat 1))) t (some (icL (thF x t) t.toNat)),x.lk,x.vo,x.rd⟩
  else ⟨nxF x.ck k t o,x.th,x.lk,x.vo,x.rd⟩
def relK (k:Int):Prop:=k=6∨k=4∨k=7∨k=9
instance (k:Int):Decidable (relK k):=by unfold relK;infer_instance
/-- May an event be next, by the clocks too? -/
def vcanF (x:VS) (k t o:Int):Prop:=canF x.ck k t o∧(relK k→(thF x t).getD t.toNat 0 < maxC)
instance (x:VS) (k t o:Int):Decidable (vcanF x k t o):=by unfold vcanF;infer_instance
/-- How many threads wait in a round of a barrier. -/
def wtN (c:CS) (b r:Int):Nat:=c.T.countP (fun s=>decide (s=(2,b,r)))
structure VInv (x:VS):Prop where
  ck:CInv x.ck
  th:∀ t,(x.th t).isSome=true↔(stF x.ck t).1≠0
  thc:∀ t l,x.th t=some l→CV l
  lkc:∀ t l,x.lk t=some l→CV l
  voc:∀ t l,x.vo t=some l→CV l
  rdc:∀ r p,x.rd r=some p→CV p.1
  rds:∀ r p,x.rd r=some p→0≤p.2∧p.2≤65535
  wt:∀ b r,((wtN x.ck b r:Nat):Int)≤(rdF x (b,r)).2
  wo:∀ b:Int,0≤b→b < x.ck.B.length→((wtN x.ck b (opF x.ck b).1:Nat):Int)≤(opF x.ck b).2
def vsR (pa:Option Addr) (pc:Nat) (po:Option Addr) (poc b:Nat) (x:VS):HProp:=fun h=>∃ cb m1 m2 m3 m4 F1 F2 F3 F4,Sat [cells b 0 [.pointer (some ⟨cb,0,none⟩),.slice po x.ck.pa.length poc,.map (some m1),.map (some m2),.map (some m3),.map (some m4)],ck pa pc cb x.ck,
  mapO ekZ evA m1 F1,rest vecA F1 x.th [],mapO ekZ evA m2 F2,rest vecA F2 x.lk [],mapO ekZ evA m3 F3,rest vecA F3 x.vo [],mapO ek2 evH m4 F4,rest heldA F4 x.rd []] h
section
variable {w0:World} {ds:List Deferred} {n:Nat} {e:Env} {Γ:List HProp} {X:Act→World→Prop}
theorem vs_open {pa:Option Addr} {pc:Nat} {po:Option Addr} {poc b:Nat} {x:VS} (k:∀ cb m1 m2 m3 m4 F1 F2 F3 F4,Le (St w0 ds n e (cells b 0 [.pointer (some ⟨cb,0,none⟩),.slice po x.ck.pa.length poc,.map (some m1),.map (some m2),.map (some m3),.map (some m4)]::ck pa pc cb x.ck ::
    mapO ekZ evA m1 F1::rest vecA F1 x.th []::mapO ekZ evA m2 F2::rest vecA F2 x.lk []::mapO ekZ evA m3 F3::rest vecA F3 x.vo []::mapO ek2 evH m4 F4::rest heldA F4 x.rd []::Γ)) X):Le (St w0 ds n e (vsR pa pc po poc b x::Γ)) X:=fun a w s=>by
  obtain ⟨h1,l1,⟨cb,m1,m2,m3,m4,F1,F2,F3,F4,a1⟩,s1⟩:=s.heap
  exact k cb m1 m2 m3 m4 F1 F2 F3 F4 a w ⟨s.defers,s.size,s.env,Bun.unfold ⟨h1,l1,a1,s1⟩,s.amb⟩
theorem vs_fold {Γ':List HProp} {b:Nat} (x:VS) {pa:Option Addr} {pc:Nat} {po:Option Addr} {poc pn cb m1 m2 m3 m4:Nat} {F1 F2 F3:Int→Option (Option Addr)} {F4:Int × Int→Option (Option Addr × Int)} {c:CS} {T1 T2 T3:Int→Option (List Int)} {T4:Int × Int→Option (List Int × Int)}
    (tk:Takes Γ [cells b 0 [.pointer (some ⟨cb,0,none⟩),.slice po pn poc,.map (some m1),.map (some m2),.map (some m3),.map (some m4)],ck pa pc cb c,
      mapO ekZ evA m1 F1,rest vecA F1 T1 [],mapO ekZ evA m2 F2,rest vecA F2 T2 [],mapO ekZ evA m3 F3,rest vecA F3 T3 [],mapO ek2 evH m4 F4,rest heldA F4 T4 []] Γ') (hx:x=⟨c,T1,T2,T3,T4⟩) (h1:pn=c.pa.length)
    (k:Le (St w0 ds n e (vsR pa pc po poc b x::Γ')) X):Le (St w0 ds n e Γ) X:=cL (fun h s=>by
  subst h1 hx
  obtain ⟨h1,l1,a1,s1⟩:=Bun.fold (tk h s)
  exact ⟨h1,l1,⟨cb,m1,m2,m3,m4,F1,F2,F3,F4,a1⟩,s1⟩) k
end
theorem get_z (b:Nat) (l:List Int) (ao:Option Addr) (n cap:Nat) (hn:l.length=n) (t:Int) (h0:0≤t):Spec Tryz.prog 58 [.pointer (some ⟨b,0,none⟩),.int .i64 t] [cells b 0 [.slice ao n cap],own 1 encU ao cap l] (fun (_:Unit)=>.int .u64 (l.getD t.toNat 0)) (fun _=>True) (fun _=>[cells b 0 [.slice ao n cap],own 1 encU ao cap l]):=by
  obtain ⟨i,rfl⟩:=Int.eq_ofNat_of_zero_le h0
  exact Vc.get_spec b l ao n cap hn i
theorem set_z (b:Nat) (l:List Int) (ao:Option Addr) (n cap:Nat) (hn:l.length=n) (hl:CV l) (t:Int) (h0:0≤t) (hi:t < 65535) (v:Int) (hv0:0≤v) (hv1:v≤maxC):Spec Tryz.prog 68 [.pointer (some ⟨b,0,none⟩),.int .i64 t,.int .u64 v] [cells b 0 [.slice ao n cap],own 1 encU ao cap l] (fun (r:Option Addr × Nat)=>.int .i64 0) (fun r=>True) (fun r=>[cells b 0 [.slice r.1 (stL l t.toNat v).length r.2],own 1 encU r.1 r.2 (stL l t.toNat v)]):=by
  obtain ⟨i,rfl⟩:=Int.eq_ofNat_of_zero_le h0
  exact Vc.set_spec b l ao n cap hn hl i Om v hv0 hv1
theorem inc_z (b:Nat) (l:List Int) (ao:Option Addr) (n cap:Nat) (hn:l.length=n) (hl:CV l) (t:Int) (h0:0≤t) (hi:t < 65535) (hlt:l.getD t.toNat 0 < maxC):Spec Tryz.prog 66 [.pointer (some ⟨b,0,none⟩),.int .i64 t] [cells b 0 [.slice ao n cap],own 1 encU ao cap l] (fun (r:Option Addr × Nat)=>.tuple #[.int .u64 (l.getD t.toNat 0+1),.int .i64 0]) (fun r=>True) (fun r=>[cells b 0 [.slice r.1 (icL l t.toNat).length r.2],own 1 encU r.1 r.2 (icL l t.toNat)]):=by
  obtain ⟨i,rfl⟩:=Int.eq_ofNat_of_zero_le h0
  exact Vc.inc_spec b l ao n cap hn hl i Om hlt
theorem merged_spec (ka:Option Addr) (km:Option (List Int)) (hkc:∀ q,km=some q→CV q) (b:Nat) (l:List Int) (ao:Option Addr) (cap:Nat) (hl:CV l):Spec Tryz.prog 63 [.pointer ka,.pointer (some ⟨b,0,none⟩)] [optA ka km,cells b 0 [.slice ao l.length cap],own 1 encU ao cap l] (fun (r:Nat × Option Addr × Nat)=>.pointer (some ⟨r.1,0,none⟩)) (fun r=>True) (fun r=>[optA ka km,cells b 0 [.slice ao l.length cap],own 1 encU ao cap l,cells r.1 0 [.slice r.2.1 (mgF km l).length r.2.2],own 1 encU r.2.1 r.2.2 (mgF km l)]):=by
 refine kS (n:=15) Tryz.func63 J J J ?_
 intro Γ w0
 simp only [argE,Ca,Na,Zd,Nat.reduceAdd]
 have hll:=hl.len
 refine qL (qC (.q 0 (.done)) Kr ?_)
 refine qR J J J J (qS (qQ (qL (qC (.q 0 ((.l 1 [] (.q 2 (.done))))) Kr ?_))))
 refine qK J J J J ?_
 have sp_1:=Vc.copy_spec b l ao l.length cap Ln Om
 refine qB J J J J J J κ'65 (sp_1) Ts ?_
 rintro ⟨mb,ma,mc⟩ -
 try simp only [Ca,Na]
 refine qV (qR J J J J (qS (qW [0,5] (e':=[(0,_),(5,_)]) J ?_)))
 refine qQ (qL (qL (qC (.q 0 (.q 1 (.done))) Kr ?_)))
 refine qK J J J J (q_ne_nil J J J J υ'94 ?_)
 refine qS (qQ ?_)
 refine c_cond J (fun hk=>?_) (fun hk=>?_)
 ·
  have hk2:ka≠none:=by intro h;rw [h] at hk;cases hk
  refine s_opt (a:=ka) (m:=km) Tk hk2 fun kb kao kcap kl hkm hka=>?_
  subst hkm
  subst hka
  try simp only [Ca,Na]
  refine qC (.q 0 (.q 1 ((.l 2 [] ((.l 3 [] (.done))))))) Kr ?_
  refine qK J J J J (qK J J J J (kJ J J J J (cW (us:=[_]) υ'218 ζ'94 J ω'94 J J J) ?_))
  intro b12
  refine qV (s_big_nil (f:=kf) ?_)
  refine cL (fun _ h=>Bun.fold ((by (repeat ((with_reducible apply Z2);focus (first | (with_reducible (repeat (first | exact Z0 | apply Z1));done) | (repeat (first | exact Z0 | apply Z1)))));exact Z3:Takes _ [cells kb 0 [.slice kao kl.length kcap],own 1 encU kao kcap kl] _) _ h)) ?_
  refine s_big_push (f:=kf) (L:=[]) (x:=(kb,kao,kcap,kl)) Ts ?_
  simp only [Na]
  have sp_2:=Vc.join_spec mb l ma l.length mc Ln hl [(kb,kao,kcap,kl)] [(kb,kao,kcap,kl)] (fun x hx=>hx) (by intro x hx;simp at hx;subst hx;exact (hkc _ rfl)) (some ⟨b12,0,none⟩) 1 1 (cells b12 0 [.pointer (some ⟨kb,0,none⟩)]) (cJ cB) rfl (by decide)
  refine qB J J J J J J Tryz.call99 (sp_2) Ts ?_
  rintro ⟨ja,jc⟩ -
  try simp only [Ca,Na]
  refine s_big_take (f:=kf) (L:=[(kb,kao,kcap,kl)]) (i:=0) (x:=(kb,kao,kcap,kl)) Tk J ?_
  refine s_bun ?_
  try simp only [Ca,Na,List.eraseIdx_cons_zero]
  rw [show jnA l [(kb,kao,kcap,kl)]=jn l kl from rfl]
  try simp only [Ca,Na]
  refine qV (qS (qW [5] (e':=[(5,_)]) J ?_))
  refine qQ (qL (qC (.q 0 (.q 1 (.done))) Kr ?_))
  refine qK J J J J (qR J J J J (qS (qQ (qJ (s_vecF kb kao kcap kl Ts ?_)))))
  refine s_optF Td ?_
  rw [show mgF (some kl) l=jn l kl from rfl]
  refine cR J J ((mb,ja,jc)) (by first | rfl | (first | rfl | (congr 1;done) | (congr 1 <;> first | rfl | omega | (simp;done) | (simp;omega)))) (by trivial) ?_
  exact Tf
 have hk2:ka=none:=by
   cases ka with
   | none=>rfl
   | some _=>simp at hk
 refine s_opt_nil (a:=ka) (m:=km) Tk hk2 fun hkm=>?_
 refine qH (qQ (qL (qC (.q 0 (.q 1 (.done))) Kr ?_)))
 refine qK J J J J (qR J J J J (qS (qW [4] (e':=[(4,_)]) J ?_)))
 refine qQ (qJ ?_)
 rw [show mgF km l=l from by rw [hkm];rfl]
 refine cR J J ((mb,ma,mc)) (by first | rfl | (first | rfl | (congr 1;done) | (congr 1 <;> first | rfl | omega | (simp;done) | (simp;omega)))) (by trivial) ?_
 exact Tf
end Go.Ab.Dj
set_option linter.unusedVariables false
set_option linter.unusedSimpArgs false
set_option maxRecDepth 100000
namespace Go.Ab.Dj
open Go Go.Proofs Go.Ab Go.Ab.Fe Go.Ab.Vc
theorem th_some {x:VS} (hx:VInv x) {t:Int} (h:(stF x.ck t).1≠0):∃ l,x.th t=some l:=Option.isSome_iff_exists.1 ((hx.th t).2 h)
theorem thF_eq {x:VS} {t:Int} {l:List Int} (h:x.th t=some l):thF x t=l:=by rw [thF,h];rfl
theorem th_rng {x:VS} (hx:VInv x) {t:Int} (h:(stF x.ck t).1≠0):0≤t∧t < 65535:=by
  obtain ⟨h0,h1,-⟩:=stF_nz h
  have h2:=hx.ck.tl
  have h3:=hx.ck.sh.th
  exact ⟨h0,by omega⟩
/-- A round that somebody waits in is kept. -/
theorem rd_some {x:VS} (hx:VInv x) {t o:Int} (h:(stF x.ck t).1=2) (ho:o=(stF x.ck t).2.1):∃ p,x.rd (o,(stF x.ck t).2.2)=some p∧1≤p.2:=by
  obtain ⟨h0,h1,h2⟩:=stF_nz (x:=x.ck) (t:=t) Om
  have h3:0 < wtN x.ck o (stF x.ck t).2.2:=by
    unfold wtN
    rw [List.countP_pos_iff]
    exact ⟨stF x.ck t,List.mem_of_getElem? h2,decide_eq_true (by rw [ho,← h])⟩
  have h4:=hx.wt o (stF x.ck t).2.2
  cases hr:x.rd (o,(stF x.ck t).2.2) with
  | none=>rw [rdF,hr] at h4;simp at h4;omega
  | some p=>rw [rdF,hr] at h4;exact ⟨p,rfl,by simp at h4;omega⟩
def dpF (x:VS) (t o:Int):VS:=⟨x.ck,upd x.th t (some (jn (thF x t) (rdF x (o,(stF x.ck t).2.2)).1)),x.lk,x.vo,upd x.rd (o,(stF x.ck t).2.2) (if (rdF x (o,(stF x.ck t).2.2)).2 - 1≤0 then none else some ((rdF x (o,(stF x.ck t).2.2)).1,(rdF x (o,(stF x.ck t).2.2)).2 - 1))⟩
theorem clock_spec (b m1:Nat) (v0 v1 v3 v4 v5:Value) (F1:Int→Option (Option Addr)) (tb:Nat) (ta:Option Addr) (tc:Nat) (l:List Int) (t:Int) (h0:0≤t) (hF:F1 t=some (some ⟨tb,0,none⟩)):Spec Tryz.prog 60 [.pointer (some ⟨b,0,none⟩),.int .i64 t] [cells b 0 [v0,v1,.map (some m1),v3,v4,v5],mapO ekZ evA m1 F1,cells tb 0 [.slice ta l.length tc],own 1 encU ta tc l] (fun (_:Unit)=>.int .u64 (l.getD t.toNat 0)) (fun _=>True) (fun _=>[cells b 0 [v0,v1,.map (some m1),v3,v4,v5],mapO ekZ evA m1 F1,cells tb 0 [.slice ta l.length tc],own 1 encU ta tc l]):=by
 refine kS (n:=13) Tryz.func60 J J J ?_
 intro Γ w0
 simp only [argE,Ca,Na,Zd,Nat.reduceAdd]
 refine qL (qC (.q 0 (.done)) Kr ?_)
 refine qR J J J J (qS (qQ (qL (qC (.q 0 (.q 1 (.q 2 (.q 3 (.q 4 (.q 5 (.q 6 ((.l 7 [] (.q 8 (.done))))))))))) Kr ?_))))
 refine qK J J J J (qZ J J J J (qG (k:=2) J J J J υ'86 J ζ'83 J ?_))
 refine qP (j:=2) J J J J α'83 Tk Az (by rfl) ?_
 refine qK J J J J (rP (ek:=ekZ) (ev1:=evA) (F:=F1) (m:=m1) (k:=t) none J J J J J υ'83 (cD υ'3) ω'94 Tk ?_)
 refine kF 10 J (v':=.pointer (some ⟨tb,0,none⟩)) (by rw [hF];rfl) ?_
 refine qK J J J J ?_
 have sp_1:=get_z tb l ta l.length tc Ln t Om
 refine qB J J J J J J κ'58 (sp_1) Ts ?_
 rintro ⟨⟩ -
 try simp only [Ca,Na]
 refine qV (qR J J J J (qS (qW [4] (e':=[(4,_)]) J ?_)))
 refine qQ (qJ (cR J J (()) (by first | rfl | (first | rfl | (congr 1;done) | (congr 1 <;> first | rfl | omega | (simp;done) | (simp;omega)))) (by trivial) ?_))
 exact Tf
theorem can_spec (pa:Option Addr) (pc:Nat) (po:Option Addr) (poc b:Nat) (x:VS) (hx:VInv x) (k t o:Int):Spec Tryz.prog 26 [.pointer (some ⟨b,0,none⟩),.agg #[.int .i64 k,.int .i64 t,.int .i64 o]] [vsR pa pc po poc b x] (fun (_:Unit)=>.bool (decide (vcanF x k t o))) (fun _=>True) (fun _=>[vsR pa pc po poc b x]):=by
 refine kS (n:=24) Tryz.func26 J J J ?_
 intro Γ w0
 simp only [argE,Ca,Na,Zd,Nat.reduceAdd]
 refine qL (qC ((.l 0 [] (.q 1 (.done)))) Kr ?_)
 refine sG J J J J (us:=[_,_,_]) J ?_
 intro b3
 refine qV (qR J J J J (qS (qQ (qL (qL (cP (A:=vsR pa pc po poc b x) Tk ?_))))))
 refine vs_open fun cb m1 m2 m3 m4 F1 F2 F3 F4=>?_
 refine kM J (.q 0 (.q 1 (.q 2 (.q 3 (.q 4 ((.l 5 [] (.q 6 (.done))))))))) Kr ?_
 refine qK J J J J (qZ J J J J (qG (k:=0) J J J J υ'86 J ζ'82 J ?_))
 refine qP (j:=0) J J J J α'82 Tk Az (by rfl) ?_
 refine kC J J J J α'52 ζ'52 Tk 0 (us:=[_,_,_]) Az J J ?_
 have sp_1:=Fe.can_spec pa pc cb x.ck hx.ck k t o
 refine qB J J J J J J Tryz.call24 (sp_1) Ts ?_
 rintro ⟨⟩ -
 try simp only [Ca,Na]
 refine qV (rK J J J J ?_)
 refine qS (qW [0,3,11] (e':=[(0,_),(3,_),(11,_)]) J ?_)
 refine qQ ?_
 refine c_cond_np J (fun hcn=>?_) (fun hcn=>?_)
 ·
  have hnv:¬ vcanF x k t o:=fun h=>hcn h.1
  refine qL (qC (.q 0 (.done)) Kr ?_)
  refine qR J J J J (qS (qQ (qJ (qN (vs_fold (b:=b) x (pa:=pa) (pc:=pc) (po:=po) (poc:=poc) (cb:=cb) (m1:=m1) (m2:=m2) (m3:=m3) (m4:=m4) Ts (by rfl) (by rfl) ?_)))))
  refine cR J J (()) (by rw [decide_eq_false hnv]) (by trivial) ?_
  exact Tf
 have hc:canF x.ck k t o:=hcn
 obtain ⟨l,hth⟩:=th_some hx (can_th hc)
 obtain ⟨h0,h1⟩:=th_rng hx (can_th hc)
 refine qH (qQ (qL (qL (qC (.q 0 (.q 1 (.done))) Kr ?_))))
 refine qG (k:=0) J J J J υ'52 J ζ'50 J ?_
 refine qP (j:=0) J J J J α'50 Tk Az (by rfl) ?_
 refine qS (qQ (kV (qL (qL (qC (.q 0 (.q 1 (.done))) Kr ?_)))))
 refine qD J J J J J (cZ _ _ _ _) ?_
 refine qR J J J J (qS (qQ ?_))
 refine qF J (fun k6=>?_) (fun k6=>?_)
 ·
  refine kF 14 J (v':=.bool true) (by rw [decide_eq_true k6]) ?_
  refine qH (qQ (cC J ?_))
  refine qL ?_
  have hrel:relK k:=by unfold relK;omega
  refine s_rest_take (F:=F1) (T:=x.th) (S:=[]) t Tk (by simp) hth fun tv htF=>?_
  refine s_vec Tk fun tb ta tc hta=>?_
  subst hta
  refine qC (.q 0 (.q 1 (.q 2 ((.l 3 [] (.q 4 (.q 5 (.done)))))))) Kr ?_
  refine qK J J J J (qG (k:=1) J J J J υ'52 J ζ'3 J ?_)
  refine qP (j:=1) J J J J α'3 Tk Az (by rfl) ?_
  have sp_2:=clock_spec b m1 (.pointer (some ⟨cb,0,none⟩)) (.slice po x.ck.pa.length poc) (.map (some m2)) (.map (some m3)) (.map (some m4)) F1 tb (ta) (tc) l t Om htF
  refine qB J J J J J J κ'60 (sp_2) Ts ?_
  rintro ⟨⟩ -
  try simp only [Ca,Na]
  refine qV (qD J J J J J (sK _ _ _ _) ?_)
  refine qR J J J J (qS (qW [4] (e':=[(4,_)]) J ?_))
  refine qQ (qJ (kH (qN (s_vecF tb ta tc l Ts ?_))))
  refine sQ (F:=F1) (T:=x.th) (S:=[]) t F1 x.th Ts (by simp) htF (fun _ _ _=>rfl) hth (fun _ _ _=>rfl) ?_
  refine vs_fold (b:=b) x (pa:=pa) (pc:=pc) (po:=po) (poc:=poc) (cb:=cb) (m1:=m1) (m2:=m2) (m3:=m3) (m4:=m4) Ts (by rfl) (by rfl) ?_
  refine cR J J (()) (by congr 1;exact decide_eq_decide.2 (by unfold vcanF;rw [thF_eq hth];exact ⟨fun h=>⟨hc,fun _=>h⟩,fun h=>h.2 hrel⟩)) (by trivial) ?_
  exact Tf
 refine kF 14 J (v':=.bool false) (by rw [decide_eq_false k6]) ?_
 refine qL (qC (.q 0 (.q 1 (.done))) Kr ?_)
 refine qD J J J J J (cZ _ _ _ _) ?_
 refine qR J J J J (qS (qW [0,3,13,14] (e':=[(0,_),(3,_),(13,_),(14,_)]) J ?_))
 refine qQ ?_
 refine qF J (fun k4=>?_) (fun k4=>?_)
 ·
  refine kF 14 J (v':=.bool true) (by rw [decide_eq_true k4]) ?_
  refine qH (qQ (cC J ?_))
  refine qL ?_
  have hrel:relK k:=by unfold relK;omega
  refine s_rest_take (F:=F1) (T:=x.th) (S:=[]) t Tk (by simp) hth fun tv htF=>?_
  refine s_vec Tk fun tb ta tc hta=>?_
  subst hta
  refine qC (.q 0 (.q 1 (.q 2 ((.l 3 [] (.q 4 (.q 5 (.done)))))))) Kr ?_
  refine qK J J J J (qG (k:=1) J J J J υ'52 J ζ'3 J ?_)
  refine qP (j:=1) J J J J α'3 Tk Az (by rfl) ?_
  have sp_3:=clock_spec b m1 (.pointer (some ⟨cb,0,none⟩)) (.slice po x.ck.pa.length poc) (.map (some m2)) (.map (some m3)) (.map (some m4)) F1 tb (ta) (tc) l t Om htF
  refine qB J J J J J J κ'60 (sp_3) Ts ?_
  rintro ⟨⟩ -
  try simp only [Ca,Na]
  refine qV (qD J J J J J (sK _ _ _ _) ?_)
  refine qR J J J J (qS (qW [4] (e':=[(4,_)]) J ?_))
  refine qQ (qJ (kH (qN (s_vecF tb ta tc l Ts ?_))))
  refine sQ (F:=F1) (T:=x.th) (S:=[]) t F1 x.th Ts (by simp) htF (fun _ _ _=>rfl) hth (fun _ _ _=>rfl) ?_
  refine vs_fold (b:=b) x (pa:=pa) (pc:=pc) (po:=po) (poc:=poc) (cb:=cb) (m1:=m1) (m2:=m2) (m3:=m3) (m4:=m4) Ts (by rfl) (by rfl) ?_
  refine cR J J (()) (by congr 1;exact decide_eq_decide.2 (by unfold vcanF;rw [thF_eq hth];exact ⟨fun h=>⟨hc,fun _=>h⟩,fun h=>h.2 hrel⟩)) (by trivial) ?_
  exact Tf
 refine kF 14 J (v':=.bool false) (by rw [decide_eq_false k4]) ?_
 refine qL (qC (.q 0 (.q 1 (.done))) Kr ?_)
 refine qD J J J J J (cZ _ _ _ _) ?_
 refine qR J J J J (qS (qQ ?_))
 refine qF J (fun k7=>?_) (fun k7=>?_)
 ·
  refine kF 14 J (v':=.bool true) (by rw [decide_eq_true k7]) ?_
  refine qH (qQ (cC J ?_))
  refine qL ?_
  have hrel:relK k:=by unfold relK;omega
  refine s_rest_take (F:=F1) (T:=x.th) (S:=[]) t Tk (by simp) hth fun tv htF=>?_
  refine s_vec Tk fun tb ta tc hta=>?_
  subst hta
  refine qC (.q 0 (.q 1 (.q 2 ((.l 3 [] (.q 4 (.q 5 (.done)))))))) Kr ?_
  refine qK J J J J (qG (k:=1) J J J J υ'52 J ζ'3 J ?_)
  refine qP (j:=1) J J J J α'3 Tk Az (by rfl) ?_
  have sp_4:=clock_spec b m1 (.pointer (some ⟨cb,0,none⟩)) (.slice po x.ck.pa.length poc) (.map (some m2)) (.map (some m3)) (.map (some m4)) F1 tb (ta) (tc) l t Om htF
  refine qB J J J J J J κ'60 (sp_4) Ts ?_
  rintro ⟨⟩ -
  try simp only [Ca,Na]
  refine qV (qD J J J J J (sK _ _ _ _) ?_)
  refine qR J J J J (qS (qW [4] (e':=[(4,_)]) J ?_))
  refine qQ (qJ (kH (qN (s_vecF tb ta tc l Ts ?_))))
  refine sQ (F:=F1) (T:=x.th) (S:=[]) t F1 x.th Ts (by simp) htF (fun _ _ _=>rfl) hth (fun _ _ _=>rfl) ?_
  refine vs_fold (b:=b) x (pa:=pa) (pc:=pc) (po:=po) (poc:=poc) (cb:=cb) (m1:=m1) (m2:=m2) (m3:=m3) (m4:=m4) Ts (by rfl) (by rfl) ?_
  refine cR J J (()) (by congr 1;exact decide_eq_decide.2 (by unfold vcanF;rw [thF_eq hth];exact ⟨fun h=>⟨hc,fun _=>h⟩,fun h=>h.2 hrel⟩)) (by trivial) ?_
  exact Tf
 refine kF 14 J (v':=.bool false) (by rw [decide_eq_false k7]) ?_
 refine qC (.q 0 (.q 1 (.done))) Kr ?_
 refine qD J J J J J (cZ _ _ _ _) ?_
 refine qR J J J J (qS (qQ ?_))
 refine qF J (fun k9=>?_) (fun k9=>?_)
 ·
  refine kF 14 J (v':=.bool true) (by rw [decide_eq_true k9]) ?_
  refine qL ?_
  have hrel:relK k:=by unfold relK;omega
  refine s_rest_take (F:=F1) (T:=x.th) (S:=[]) t Tk (by simp) hth fun tv htF=>?_
  refine s_vec Tk fun tb ta tc hta=>?_
  subst hta
  refine qC (.q 0 (.q 1 (.q 2 ((.l 3 [] (.q 4 (.q 5 (.done)))))))) Kr ?_
  refine qK J J J J (qG (k:=1) J J J J υ'52 J ζ'3 J ?_)
  refine qP (j:=1) J J J J α'3 Tk Az (by rfl) ?_
  have sp_5:=clock_spec b m1 (.pointer (some ⟨cb,0,none⟩)) (.slice po x.ck.pa.length poc) (.map (some m2)) (.map (some m3)) (.map (some m4)) F1 tb (ta) (tc) l t Om htF
  refine qB J J J J J J κ'60 (sp_5) Ts ?_
  rintro ⟨⟩ -
  try simp only [Ca,Na]
  refine qV (qD J J J J J (sK _ _ _ _) ?_)
  refine qR J J J J (qS (qW [4] (e':=[(4,_)]) J ?_))
  refine qQ (qJ (kH (qN (s_vecF tb ta tc l Ts ?_))))
  refine sQ (F:=F1) (T:=x.th) (S:=[]) t F1 x.th Ts (by simp) htF (fun _ _ _=>rfl) hth (fun _ _ _=>rfl) ?_
  refine vs_fold (b:=b) x (pa:=pa) (pc:=pc) (po:=po) (poc:=poc) (cb:=cb) (m1:=m1) (m2:=m2) (m3:=m3) (m4:=m4) Ts (by rfl) (by rfl) ?_
  refine cR J J (()) (by congr 1;exact decide_eq_decide.2 (by unfold vcanF;rw [thF_eq hth];exact ⟨fun h=>⟨hc,fun _=>h⟩,fun h=>h.2 hrel⟩)) (by trivial) ?_
  exact Tf
 refine kF 14 J (v':=.bool false) (by rw [decide_eq_false k9]) ?_
 refine qH (kG (qQ (qL (qC (.q 0 (.done)) Kr ?_))))
 refine qR J J J J (qS (qW [4] (e':=[(4,_)]) J ?_))
 refine qQ (qJ (vs_fold (b:=b) x (pa:=pa) (pc:=pc) (po:=po) (poc:=poc) (cb:=cb) (m1:=m1) (m2:=m2) (m3:=m3) (m4:=m4) Ts (by rfl) (by rfl) ?_))
 refine cR J J (()) (by have hv:vcanF x k t o:=⟨hc,fun h=>by unfold relK at h;omega⟩;rw [decide_eq_true hv]) (by trivial) ?_
 exact Tf
theorem depart_spec (pa:Option Addr) (pc:Nat) (po:Option Addr) (poc b:Nat) (x:VS) (hx:VInv x) (k t o:Int) (h2:(stF x.ck t).1=2) (ho:o=(stF x.ck t).2.1):Spec Tryz.prog 64 [.pointer (some ⟨b,0,none⟩),.agg #[.int .i64 k,.int .i64 t,.int .i64 o]] [vsR pa pc po poc b x] (fun (_:Unit)=>.tuple #[]) (fun _=>True) (fun _=>[vsR pa pc po poc b (dpF x t o)]):=by
 refine kS (n:=58) Tryz.func64 J J J ?_
 intro Γ w0
 simp only [argE,Ca,Na,Zd,Nat.reduceAdd]
 refine qL (qC ((.l 0 [] (.done))) Kr ?_)
 refine sG J J J J (us:=[_,_,_]) J ?_
 intro b3
 refine qV (qS (qQ (qL ?_)))
 obtain ⟨l,hth⟩:=th_some hx (t:=t) Om
 obtain ⟨h0,h1⟩:=th_rng hx (t:=t) Om
 obtain ⟨p,hrd,hp1⟩:=rd_some hx h2 ho
 have hpc:=hx.rdc _ _ hrd
 have hps:=hx.rds _ _ hrd
 have hrf:rdF x (o,(stF x.ck t).2.2)=p:=by rw [rdF,hrd];rfl
 have htf:=thF_eq hth
 have hlc:=hx.thc _ _ hth
 refine cP (A:=vsR pa pc po poc b x) Tk ?_
 refine vs_open fun cb m1 m2 m3 m4 F1 F2 F3 F4=>?_
 refine kM J (.q 0 (.q 1 (.q 2 (.q 3 (.q 4 (.q 5 ((.alt (.l 6 [] (.q 7 (.q 8 (.q 9 ((.l 10 [] ((.l 11 [] (.q 12 (.done)))))))))) (.l 10 [3,5] ((.l 6 [] (.q 7 (.q 8 (.q 9 ((.l 11 [] (.q 12 (.done)))))))))))))))))) Kr ?_
 refine qK J J J J (qZ J J J J (qG (k:=0) J J J J υ'86 J ζ'82 J ?_))
 refine qP (j:=0) J J J J α'82 Tk Az (by rfl) ?_
 refine qG (k:=1) J J J J υ'52 J ζ'3 J ?_
 refine qP (j:=1) J J J J α'3 Tk Az (by rfl) ?_
 refine rV ?_ ?_
 ·
  have sp_1:=Fe.stand_spec pa pc cb x.ck t
  refine qB J J J J J J Tryz.call100 (sp_1) Ts ?_
  rintro ⟨⟩ -
  try simp only [Ca,Na]
  refine qV (qK J J J J (kX J J J J J (kX J J J J J (cY J J J ω'133 (zs:=[.int .i64 0,.int .i64 0,.int .i64 0]) J ?_))))
  intro b4
  refine qV (kR (j:=0) J J J J ζ'133 (us:=[_,_,_]) J J J Tk Az (by first | decide | (simp;done) | omega) ?_)
  simp only [setL,List.set]
  refine qV (qR J J J J (qS (qW [0,3,4] (e':=[(0,_),(3,_),(4,_)]) J ?_)))
  refine qQ (qL (qC (.q 0 (.q 1 (.q 2 (.q 3 (.q 4 ((.l 5 [] ((.l 6 [] (.done)))))))))) Kr ?_))
  refine qG (k:=2) J J J J υ'52 J ζ'3 J ?_
  refine qP (j:=2) J J J J α'3 Tk Az (by rfl) ?_
  refine qG (k:=2) J J J J υ'133 J ζ'3 J ?_
  refine qP (j:=2) J J J J α'3 Tk Az (by rfl) ?_
  refine kB J J J J (vs:=[_,_]) (kQ υ'153 ω'153 (ps:=[(0,1),(1,1)]) ⟨rfl,ζ'3,rfl,ζ'3,trivial⟩ rfl) ?_
  refine cY J J J ω'153 (zs:=[.int .i64 0,.int .i64 0]) J ?_
  intro b6
  refine qV (kR (j:=0) J J J J ζ'153 (us:=[_,_]) J J J Tk Az (by first | decide | (simp;done) | omega) ?_)
  simp only [setL,List.set]
  refine qV (qS (qW [0,3,6] (e':=[(0,_),(3,_),(6,_)]) J ?_))
  refine qQ (qL (s_rest_take (F:=F4) (T:=x.rd) (S:=[]) (o,(stF x.ck t).2.2) Tk (by simp) hrd fun rv hrF=>?_))
  refine s_held Tk fun hrs=>?_
  obtain ⟨rva,rvs⟩:=rv
  simp only at hrs
  subst hrs
  refine s_vec Tk fun rb ra rc hra=>?_
  simp only at hra
  subst hra
  refine kM J (.q 0 (.q 1 (.q 2 (.q 3 (.q 4 (.q 5 ((.l 6 [3,4,5] ((.l 7 [] (.done))))))))))) Kr ?_
  refine qK J J J J (qZ J J J J (qG (k:=5) J J J J υ'86 J ζ'84 J ?_))
  refine qP (j:=5) J J J J α'84 Tk Az (by rfl) ?_
  refine kC J J J J α'153 ζ'153 Tk 0 (us:=[_,_]) Az J J ?_
  refine rP (ek:=ek2) (ev1:=evH) (F:=F4) (m:=m4) (k:=(o,(stF x.ck t).2.2)) (none,0) J J J J J υ'84 (sH υ'153 J J J J υ'3 υ'3 α'3 α'3 Kr) ω'155 Tk ?_
  refine kF 28 J (v':=.agg #[.pointer (some ⟨rb,0,none⟩),.int .i64 p.2]) (by rw [hrF];rfl) ?_
  refine cY J J J ω'155 (zs:=[.pointer none,.int .i64 0]) J ?_
  intro b7
  refine qM (q:=5) J J J α'84 Tk Az (by rfl) ?_
  refine kW J J (us:=[_,_]) J α'153 ζ'153 Tk 0 Az J J ?_
  refine ag_lookup1 (ek:=ek2) (ev1:=evH) (F:=F4) (m:=m4) (k:=(o,(stF x.ck t).2.2)) (none,0) J J (by first | rfl | (rw [hrF];rfl)) J J υ'84 (sH υ'153 J J J J υ'3 υ'3 α'3 α'3 Kr) ω'155 Tk ?_
  refine qV (kR (j:=0) J J J J ζ'155 (us:=[_,_]) J J J Tk Az (by first | decide | (simp;done) | omega) ?_)
  simp only [setL,List.set]
  refine qV (qS (qW [0,3,6,7] (e':=[(0,_),(3,_),(6,_),(7,_)]) J ?_))
  refine qQ (qL (s_rest_take (F:=F1) (T:=x.th) (S:=[]) t Tk (by simp) hth fun tv htF=>?_))
  refine s_vec Tk fun tb ta tc hta=>?_
  subst hta
  refine kM J (.q 0 (.q 1 (.q 2 (.q 3 (.q 4 (.q 5 (.q 6 (.q 7 (.q 8 ((.l 9 [3,5,6] ((.l 10 [] (.done)))))))))))))) Kr ?_
  refine qK J J J J (qZ J J J J (qG (k:=2) J J J J υ'86 J ζ'83 J ?_))
  refine qP (j:=2) J J J J α'83 Tk Az (by rfl) ?_
  refine qG (k:=1) J J J J υ'52 J ζ'3 J ?_
  refine qP (j:=1) J J J J α'3 Tk Az (by rfl) ?_
  refine rP (ek:=ekZ) (ev1:=evA) (F:=F1) (m:=m1) (k:=t) none J J J J J υ'83 (cD υ'3) ω'94 Tk ?_
  refine kF 35 J (v':=.pointer (some ⟨tb,0,none⟩)) (by rw [htF];rfl) ?_
  refine qG (k:=0) J J J J υ'155 J ζ'94 J ?_
  refine qP (j:=0) J J J J α'94 Tk Az (by rfl) ?_
  refine kJ J J J J (cW (us:=[_]) υ'218 ζ'94 J ω'94 J J J) ?_
  intro b38
  refine qM (q:=2) J J J α'83 Tk Az (by rfl) ?_
  refine qM (q:=1) J J J α'3 Tk Az (by rfl) ?_
  refine ag_lookup1 (ek:=ekZ) (ev1:=evA) (F:=F1) (m:=m1) (k:=t) none J J (by first | rfl | (rw [htF];rfl)) J J υ'83 (cD υ'3) ω'94 Tk ?_
  refine qV (s_big_nil (f:=kf) ?_)
  refine cL (fun _ h=>Bun.fold ((by (repeat ((with_reducible apply Z2);focus (first | (with_reducible (repeat (first | exact Z0 | apply Z1));done) | (repeat (first | exact Z0 | apply Z1)))));exact Z3:Takes _ [cells rb 0 [.slice ra p.1.length rc],own 1 encU ra rc p.1] _) _ h)) ?_
  refine s_big_push (f:=kf) (L:=[]) (x:=(rb,ra,rc,p.1)) Ts ?_
  simp only [Na]
  have sp_2:=Vc.join_spec tb l ta l.length tc Ln hlc [(rb,ra,rc,p.1)] [(rb,ra,rc,p.1)] (fun x hx=>hx) (by intro x hx;simp at hx;subst hx;exact hpc) (some ⟨b38,0,none⟩) 1 1 (cells b38 0 [.pointer (some ⟨rb,0,none⟩)]) (cJ cB) rfl (by decide)
  refine qB J J J J J J Tryz.call99 (sp_2) Ts ?_
  rintro ⟨ja,jc⟩ -
  try simp only [Ca,Na]
  refine s_big_take (f:=kf) (L:=[(rb,ra,rc,p.1)]) (i:=0) (x:=(rb,ra,rc,p.1)) Tk J ?_
  refine s_bun ?_
  try simp only [Ca,Na,List.eraseIdx_cons_zero]
  rw [show jnA l [(rb,ra,rc,p.1)]=jn l p.1 from rfl]
  try simp only [Ca,Na]
  refine qV (qS (qW [0,6,7] (e':=[(0,_),(6,_),(7,_)]) J ?_))
  refine qQ (qL (qL (qC (.q 0 (.q 1 (.q 2 (.q 3 ((.l 4 [] (.done))))))) Kr ?_)))
  refine qG (k:=1) J J J J υ'155 J ζ'3 J ?_
  refine qP (j:=1) J J J J α'3 Tk Az (by rfl) ?_
  refine qD J J J J J (b_sub' _ (by exact kY Om Om)) ?_
  refine qG (k:=1) J J J J υ'155 J ζ'3 J ?_
  refine kR (j:=1) J J J J ζ'3 (us:=[_]) J J J Tk Az (by first | decide | (simp;done) | omega) ?_
  simp only [setL,List.set]
  refine qV (qS (qW [0,6,7] (e':=[(0,_),(6,_),(7,_)]) J ?_))
  refine qQ (qL (qC (.q 0 (.q 1 (.q 2 (.done)))) Kr ?_))
  refine qG (k:=1) J J J J υ'155 J ζ'3 J ?_
  refine qP (j:=1) J J J J α'3 Tk Az (by rfl) ?_
  refine qD J J J J J (b_leq _ _ _ _) ?_
  refine qS (qQ ?_)
  refine qF J (fun hz=>?_) (fun hz=>?_)
  ·
   refine qL (kM J (.q 0 (.q 1 (.q 2 (.q 3 (.q 4 ((.l 5 [] (.done)))))))) Kr ?_)
   refine qK J J J J (qZ J J J J (qG (k:=5) J J J J υ'86 J ζ'84 J ?_))
   refine qP (j:=5) J J J J α'84 Tk Az (by rfl) ?_
   refine kC J J J J α'153 ζ'153 Tk 0 (us:=[_,_]) Az J J ?_
   refine l_delete (ek:=ek2) (ev1:=evH) (F:=F4) (m:=m4) (k:=(o,(stF x.ck t).2.2)) J J J J υ'84 (sH υ'153 J J J J υ'3 υ'3 α'3 α'3 Kr) Tk ?_
   refine qV (qS (s_rest_none (F:=F4) (T:=x.rd) (S:=[]) (o,(stF x.ck t).2.2) (upd F4 (o,(stF x.ck t).2.2) none) (upd x.rd (o,(stF x.ck t).2.2) none) Tk sL (fun q h _=>sD h) sL (fun q h _=>sD h) ?_))
   refine s_vecF tb ja jc (jn l p.1) Ts ?_
   refine sQ (F:=F1) (T:=x.th) (S:=[]) t F1 (upd x.th t (some (jn l p.1))) Ts (by simp) htF (fun _ _ _=>rfl) sL (fun q h _=>sD h) ?_
   refine qW [] (e':=[]) J ?_
   refine qQ (qJ (qN (vs_fold (b:=b) (dpF x t o) (pa:=pa) (pc:=pc) (po:=po) (poc:=poc) (cb:=cb) (m1:=m1) (m2:=m2) (m3:=m3) (m4:=m4) Ts (by rw [dpF,hrf,htf,if_pos hz]) (by rfl) ?_)))
   refine ret0 J (()) (by first | rfl | (first | rfl | (congr 1;done) | (congr 1 <;> first | rfl | omega | (simp;done) | (simp;omega)))) (by trivial) ?_
   exact Tf
  refine qH (qQ (kM J (.q 0 (.q 1 (.q 2 (.q 3 (.q 4 (.q 5 ((.l 6 [] (.done))))))))) Kr ?_))
  refine qK J J J J (qZ J J J J (qG (k:=5) J J J J υ'86 J ζ'84 J ?_))
  refine qP (j:=5) J J J J α'84 Tk Az (by rfl) ?_
  refine kC J J J J α'153 ζ'153 Tk 0 (us:=[_,_]) Az J J ?_
  refine kC J J J J Tryz.isAgg155 ζ'155 Tk 0 (us:=[_,_]) Az J J ?_
  refine sX (ek:=ek2) (ev1:=evH) (F:=F4) (m:=m4) (k:=(o,(stF x.ck t).2.2)) (v:=((some ⟨rb,0,none⟩:Option Addr),p.2 - 1)) (by first | exact .inl J | exact .inr J) J J J J υ'84 (sH υ'153 J J J J υ'3 υ'3 α'3 α'3 Kr) Tk ?_
  refine qV (qS (qW [] (e':=[]) J ?_))
  refine sZ ?_
  refine s_vecF rb ra rc p.1 Ts ?_
  refine s_heldF (some ⟨rb,0,none⟩,p.2 - 1) (p.1,p.2 - 1) Td J ?_
  refine sQ (F:=F4) (T:=x.rd) (S:=[]) (o,(stF x.ck t).2.2) (upd F4 (o,(stF x.ck t).2.2) (some (some ⟨rb,0,none⟩,p.2 - 1))) (upd x.rd (o,(stF x.ck t).2.2) (some (p.1,p.2 - 1))) Ts (by simp) sL (fun q h _=>sD h) sL (fun q h _=>sD h) ?_
  refine s_vecF tb ja jc (jn l p.1) Ts ?_
  refine sQ (F:=F1) (T:=x.th) (S:=[]) t F1 (upd x.th t (some (jn l p.1))) Ts (by simp) htF (fun _ _ _=>rfl) sL (fun q h _=>sD h) ?_
  refine vs_fold (b:=b) (dpF x t o) (pa:=pa) (pc:=pc) (po:=po) (poc:=poc) (cb:=cb) (m1:=m1) (m2:=m2) (m3:=m3) (m4:=m4) Ts (by rw [dpF,hrf,htf,if_neg hz]) (by rfl) ?_
  refine ret0 J (()) (by first | rfl | (first | rfl | (congr 1;done) | (congr 1 <;> first | rfl | omega | (simp;done) | (simp;omega)))) (by trivial) ?_
  exact Tf
 refine cY J J J ω'133 (zs:=[.int .i64 0,.int .i64 0,.int .i64 0]) J ?_
 intro b4
 refine qM (q:=0) J J J α'82 Tk Az (by rfl) ?_
 refine qM (q:=1) J J J α'3 Tk Az (by rfl) ?_
 refine qV ?_
 have sp_3:=Fe.stand_spec pa pc cb x.ck t
 refine qB J J J J J J Tryz.call100 (sp_3) Ts ?_
 rintro ⟨⟩ -
 try simp only [Ca,Na]
 refine qV (qK J J J J (kX J J J J J (kX J J J J J (kR (j:=0) J J J J ζ'133 (us:=[_,_,_]) J J J Tk Az (by first | decide | (simp;done) | omega) ?_))))
 simp only [setL,List.set]
 refine qV (qR J J J J (qS (qW [0,3,4] (e':=[(0,_),(3,_),(4,_)]) J ?_)))
 refine qQ (qL (qC (.q 0 (.q 1 (.q 2 (.q 3 (.q 4 ((.l 5 [] ((.l 6 [] (.done)))))))))) Kr ?_))
 refine qG (k:=2) J J J J υ'52 J ζ'3 J ?_
 refine qP (j:=2) J J J J α'3 Tk Az (by rfl) ?_
 refine qG (k:=2) J J J J υ'133 J ζ'3 J ?_
 refine qP (j:=2) J J J J α'3 Tk Az (by rfl) ?_
 refine kB J J J J (vs:=[_,_]) (kQ υ'153 ω'153 (ps:=[(0,1),(1,1)]) ⟨rfl,ζ'3,rfl,ζ'3,trivial⟩ rfl) ?_
 refine cY J J J ω'153 (zs:=[.int .i64 0,.int .i64 0]) J ?_
 intro b6
 refine qV (kR (j:=0) J J J J ζ'153 (us:=[_,_]) J J J Tk Az (by first | decide | (simp;done) | omega) ?_)
 simp only [setL,List.set]
 refine qV (qS (qW [0,3,6] (e':=[(0,_),(3,_),(6,_)]) J ?_))
 refine qQ (qL (s_rest_take (F:=F4) (T:=x.rd) (S:=[]) (o,(stF x.ck t).2.2) Tk (by simp) hrd fun rv hrF=>?_))
 refine s_held Tk fun hrs=>?_
 obtain ⟨rva,rvs⟩:=rv
 simp only at hrs
 subst hrs
 refine s_vec Tk fun rb ra rc hra=>?_
 simp only at hra
 subst hra
 refine kM J (.q 0 (.q 1 (.q 2 (.q 3 (.q 4 (.q 5 ((.l 6 [3,4,5] ((.l 7 [] (.done))))))))))) Kr ?_
 refine qK J J J J (qZ J J J J (qG (k:=5) J J J J υ'86 J ζ'84 J ?_))
 refine qP (j:=5) J J J J α'84 Tk Az (by rfl) ?_
 refine kC J J J J α'153 ζ'153 Tk 0 (us:=[_,_]) Az J J ?_
 refine rP (ek:=ek2) (ev1:=evH) (F:=F4) (m:=m4) (k:=(o,(stF x.ck t).2.2)) (none,0) J J J J J υ'84 (sH υ'153 J J J J υ'3 υ'3 α'3 α'3 Kr) ω'155 Tk ?_
 refine kF 28 J (v':=.agg #[.pointer (some ⟨rb,0,none⟩),.int .i64 p.2]) (by rw [hrF];rfl) ?_
 refine cY J J J ω'155 (zs:=[.pointer none,.int .i64 0]) J ?_
 intro b7
 refine qM (q:=5) J J J α'84 Tk Az (by rfl) ?_
 refine kW J J (us:=[_,_]) J α'153 ζ'153 Tk 0 Az J J ?_
 refine ag_lookup1 (ek:=ek2) (ev1:=evH) (F:=F4) (m:=m4) (k:=(o,(stF x.ck t).2.2)) (none,0) J J (by first | rfl | (rw [hrF];rfl)) J J υ'84 (sH υ'153 J J J J υ'3 υ'3 α'3 α'3 Kr) ω'155 Tk ?_
 refine qV (kR (j:=0) J J J J ζ'155 (us:=[_,_]) J J J Tk Az (by first | decide | (simp;done) | omega) ?_)
 simp only [setL,List.set]
 refine qV (qS (qW [0,3,6,7] (e':=[(0,_),(3,_),(6,_),(7,_)]) J ?_))
 refine qQ (qL (s_rest_take (F:=F1) (T:=x.th) (S:=[]) t Tk (by simp) hth fun tv htF=>?_))
 refine s_vec Tk fun tb ta tc hta=>?_
 subst hta
 refine kM J (.q 0 (.q 1 (.q 2 (.q 3 (.q 4 (.q 5 (.q 6 (.q 7 (.q 8 ((.l 9 [3,5,6] ((.l 10 [] (.done)))))))))))))) Kr ?_
 refine qK J J J J (qZ J J J J (qG (k:=2) J J J J υ'86 J ζ'83 J ?_))
 refine qP (j:=2) J J J J α'83 Tk Az (by rfl) ?_
 refine qG (k:=1) J J J J υ'52 J ζ'3 J ?_
 refine qP (j:=1) J J J J α'3 Tk Az (by rfl) ?_
 refine rP (ek:=ekZ) (ev1:=evA) (F:=F1) (m:=m1) (k:=t) none J J J J J υ'83 (cD υ'3) ω'94 Tk ?_
 refine kF 35 J (v':=.pointer (some ⟨tb,0,none⟩)) (by rw [htF];rfl) ?_
 refine qG (k:=0) J J J J υ'155 J ζ'94 J ?_
 refine qP (j:=0) J J J J α'94 Tk Az (by rfl) ?_
 refine kJ J J J J (cW (us:=[_]) υ'218 ζ'94 J ω'94 J J J) ?_
 intro b38
 refine qM (q:=2) J J J α'83 Tk Az (by rfl) ?_
 refine qM (q:=1) J J J α'3 Tk Az (by rfl) ?_
 refine ag_lookup1 (ek:=ekZ) (ev1:=evA) (F:=F1) (m:=m1) (k:=t) none J J (by first | rfl | (rw [htF];rfl)) J J υ'83 (cD υ'3) ω'94 Tk ?_
 refine qV (s_big_nil (f:=kf) ?_)
 refine cL (fun _ h=>Bun.fold ((by (repeat ((with_reducible apply Z2);focus (first | (with_reducible (repeat (first | exact Z0 | apply Z1));done) | (repeat (first | exact Z0 | apply Z1)))));exact Z3:Takes _ [cells rb 0 [.slice ra p.1.length rc],own 1 encU ra rc p.1] _) _ h)) ?_
 refine s_big_push (f:=kf) (L:=[]) (x:=(rb,ra,rc,p.1)) Ts ?_
 simp only [Na]
 have sp_4:=Vc.join_spec tb l ta l.length tc Ln hlc [(rb,ra,rc,p.1)] [(rb,ra,rc,p.1)] (fun x hx=>hx) (by intro x hx;simp at hx;subst hx;exact hpc) (some ⟨b38,0,none⟩) 1 1 (cells b38 0 [.pointer (some ⟨rb,0,none⟩)]) (cJ cB) rfl (by decide)
 refine qB J J J J J J Tryz.call99 (sp_4) Ts ?_
 rintro ⟨ja,jc⟩ -
 try simp only [Ca,Na]
 refine s_big_take (f:=kf) (L:=[(rb,ra,rc,p.1)]) (i:=0) (x:=(rb,ra,rc,p.1)) Tk J ?_
 refine s_bun ?_
 try simp only [Ca,Na,List.eraseIdx_cons_zero]
 rw [show jnA l [(rb,ra,rc,p.1)]=jn l p.1 from rfl]
 try simp only [Ca,Na]
 refine qV (qS (qW [0,6,7] (e':=[(0,_),(6,_),(7,_)]) J ?_))
 refine qQ (qL (qL (qC (.q 0 (.q 1 (.q 2 (.q 3 ((.l 4 [] (.done))))))) Kr ?_)))
 refine qG (k:=1) J J J J υ'155 J ζ'3 J ?_
 refine qP (j:=1) J J J J α'3 Tk Az (by rfl) ?_
 refine qD J J J J J (b_sub' _ (by exact kY Om Om)) ?_
 refine qG (k:=1) J J J J υ'155 J ζ'3 J ?_
 refine kR (j:=1) J J J J ζ'3 (us:=[_]) J J J Tk Az (by first | decide | (simp;done) | omega) ?_
 simp only [setL,List.set]
 refine qV (qS (qW [0,6,7] (e':=[(0,_),(6,_),(7,_)]) J ?_))
 refine qQ (qL (qC (.q 0 (.q 1 (.q 2 (.done)))) Kr ?_))
 refine qG (k:=1) J J J J υ'155 J ζ'3 J ?_
 refine qP (j:=1) J J J J α'3 Tk Az (by rfl) ?_
 refine qD J J J J J (b_leq _ _ _ _) ?_
 refine qS (qQ ?_)
 refine qF J (fun hz=>?_) (fun hz=>?_)
 ·
  refine qL (kM J (.q 0 (.q 1 (.q 2 (.q 3 (.q 4 ((.l 5 [] (.done)))))))) Kr ?_)
  refine qK J J J J (qZ J J J J (qG (k:=5) J J J J υ'86 J ζ'84 J ?_))
  refine qP (j:=5) J J J J α'84 Tk Az (by rfl) ?_
  refine kC J J J J α'153 ζ'153 Tk 0 (us:=[_,_]) Az J J ?_
  refine l_delete (ek:=ek2) (ev1:=evH) (F:=F4) (m:=m4) (k:=(o,(stF x.ck t).2.2)) J J J J υ'84 (sH υ'153 J J J J υ'3 υ'3 α'3 α'3 Kr) Tk ?_
  refine qV (qS (s_rest_none (F:=F4) (T:=x.rd) (S:=[]) (o,(stF x.ck t).2.2) (upd F4 (o,(stF x.ck t).2.2) none) (upd x.rd (o,(stF x.ck t).2.2) none) Tk sL (fun q h _=>sD h) sL (fun q h _=>sD h) ?_))
  refine s_vecF tb ja jc (jn l p.1) Ts ?_
  refine sQ (F:=F1) (T:=x.th) (S:=[]) t F1 (upd x.th t (some (jn l p.1))) Ts (by simp) htF (fun _ _ _=>rfl) sL (fun q h _=>sD h) ?_
  refine qW [] (e':=[]) J ?_
  refine qQ (qJ (qN (vs_fold (b:=b) (dpF x t o) (pa:=pa) (pc:=pc) (po:=po) (poc:=poc) (cb:=cb) (m1:=m1) (m2:=m2) (m3:=m3) (m4:=m4) Ts (by rw [dpF,hrf,htf,if_pos hz]) (by rfl) ?_)))
  refine ret0 J (()) (by first | rfl | (first | rfl | (congr 1;done) | (congr 1 <;> first | rfl | omega | (simp;done) | (simp;omega)))) (by trivial) ?_
  exact Tf
 refine qH (qQ (kM J (.q 0 (.q 1 (.q 2 (.q 3 (.q 4 (.q 5 ((.l 6 [] (.done))))))))) Kr ?_))
 refine qK J J J J (qZ J J J J (qG (k:=5) J J J J υ'86 J ζ'84 J ?_))
 refine qP (j:=5) J J J J α'84 Tk Az (by rfl) ?_
 refine kC J J J J α'153 ζ'153 Tk 0 (us:=[_,_]) Az J J ?_
 refine kC J J J J Tryz.isAgg155 ζ'155 Tk 0 (us:=[_,_]) Az J J ?_
 refine sX (ek:=ek2) (ev1:=evH) (F:=F4) (m:=m4) (k:=(o,(stF x.ck t).2.2)) (v:=((some ⟨rb,0,none⟩:Option Addr),p.2 - 1)) (by first | exact .inl J | exact .inr J) J J J J υ'84 (sH υ'153 J J J J υ'3 υ'3 α'3 α'3 Kr) Tk ?_
 refine qV (qS (qW [] (e':=[]) J ?_))
 refine sZ ?_
 refine s_vecF rb ra rc p.1 Ts ?_
 refine s_heldF (some ⟨rb,0,none⟩,p.2 - 1) (p.1,p.2 - 1) Td J ?_
 refine sQ (F:=F4) (T:=x.rd) (S:=[]) (o,(stF x.ck t).2.2) (upd F4 (o,(stF x.ck t).2.2) (some (some ⟨rb,0,none⟩,p.2 - 1))) (upd x.rd (o,(stF x.ck t).2.2) (some (p.1,p.2 - 1))) Ts (by simp) sL (fun q h _=>sD h) sL (fun q h _=>sD h) ?_
 refine s_vecF tb ja jc (jn l p.1) Ts ?_
 refine sQ (F:=F1) (T:=x.th) (S:=[]) t F1 (upd x.th t (some (jn l p.1))) Ts (by simp) htF (fun _ _ _=>rfl) sL (fun q h _=>sD h) ?_
 refine vs_fold (b:=b) (dpF x t o) (pa:=pa) (pc:=pc) (po:=po) (poc:=poc) (cb:=cb) (m1:=m1) (m2:=m2) (m3:=m3) (m4:=m4) Ts (by rw [dpF,hrf,htf,if_neg hz]) (by rfl) ?_
 refine ret0 J (()) (by first | rfl | (first | rfl | (congr 1;done) | (congr 1 <;> first | rfl | omega | (simp;done) | (simp;omega)))) (by trivial) ?_
 exact Tf
end Go.Ab.Dj
