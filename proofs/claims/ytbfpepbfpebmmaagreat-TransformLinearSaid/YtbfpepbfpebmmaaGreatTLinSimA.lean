/- Part of the proof: SimA. -/
import Derived.AtR
import Derived.Below
import Derived.Orders
import Derived.Laws.World
import Derived.Laws.Rows
set_option linter.all false
namespace Go.Sim
open Go
structure Loc where
  blk:Nat
  base:Nat
  esz:Nat
  ext:Nat
abbrev Inj:=Nat→Option Loc
def Inj.le (i j:Inj):Prop:=∀ b L,i b=some L→j b=some L
def Inj.upd (i:Inj) (b:Nat) (L:Loc):Inj:=fun x=>if x=b then some L else i x
theorem Inj.le_refl (i:Inj):i.le i:=fun _ _ h=>h
theorem Inj.le_trans {i j k:Inj} (h:i.le j) (h':j.le k):i.le k:=fun b L e=>h' b L (h b L e)
theorem Inj.le_upd {i:Inj} {b:Nat} {L:Loc} (h:i b=none):i.le (i.upd b L):=by
  intro x M e
  unfold Inj.upd
  by_cases hx:x=b
  · subst hx;rw [h] at e;cases e
  · simp [hx,e]
theorem Inj.upd_same (i:Inj) (b:Nat) (L:Loc):(i.upd b L) b=some L:=by simp [Inj.upd]
inductive FnR (i:Inj):Fn→Fn→Prop
  | func (f:FuncId):FnR i (.func f) (.func f)
  | yield {l:Nat} {L:Loc}:i l=some L→FnR i (.yield l) (.yield L.blk)
inductive VR (i:Inj):Value→Value→Prop
  | bool (b:Bool):VR i (.bool b) (.bool b)
  | int (k:IntKind) (n:Int):VR i (.int k n) (.int k n)
  | float (k:FloatKind) (n:Nat):VR i (.float k n) (.float k n)
  | string (s:ByteArray):VR i (.string s) (.string s)
  | nilFunc:VR i .nilFunc .nilFunc
  | nilIface:VR i .nilIface .nilIface
  | pnil:VR i (.pointer none) (.pointer none)
  | mnil:VR i (.map none) (.map none)
  | ptr {a:Addr} {L:Loc}:i a.block=some L→a.spot=none→VR i (.pointer (some a)) (.pointer (some ⟨L.blk,L.base+a.off,none⟩))
  | snil (l c:Nat):VR i (.slice none l c) (.slice none l c)
  | slice {a:Addr} {L:Loc} {l c c':Nat}:i a.block=some L→a.spot=none→(c'=c∨c'=c+L.ext)→VR i (.slice (some a) l c) (.slice (some ⟨L.blk,L.base+a.off,none⟩) l c')
  | vague {a x:Addr} {s c':Nat}:a.spot=some s→VR i (.slice (some a) 0 0) (.slice (some x) 0 c')
  | map {r:Nat} {L:Loc}:i r=some L→VR i (.map (some r)) (.map (some L.blk))
  | func {fn fn':Fn} {f f' c c':Array Value}:FnR i fn fn'→f.size=f'.size→(∀ k (h:k<f.size) (h':k<f'.size),VR i f[k] f'[k]) →
      c.size=c'.size→(∀ k (h:k<c.size) (h':k<c'.size),VR i c[k] c'[k])→VR i (.func fn f c) (.func fn' f' c')
  | iface (t:TypeId) {v v':Value}:VR i v v'→VR i (.iface t v) (.iface t v')
  | agg {cs ds:Array Value}:cs.size=ds.size→(∀ k (h:k<cs.size) (h':k<ds.size),VR i cs[k] ds[k])→VR i (.agg cs) (.agg ds)
  | tuple {cs ds:Array Value}:cs.size=ds.size→(∀ k (h:k<cs.size) (h':k<ds.size),VR i cs[k] ds[k])→VR i (.tuple cs) (.tuple ds)
theorem FnR.mono {i j:Inj} (h:i.le j) {f f':Fn} (r:FnR i f f'):FnR j f f':=by
  cases r with
  | func f=>exact .func f
  | yield e=>exact .yield (h _ _ e)
theorem VR.mono {i j:Inj} (h:i.le j) {v v':Value} (r:VR i v v'):VR j v v':=by
  induction r with
  | bool b=>exact .bool b
  | int k n=>exact .int k n
  | float k n=>exact .float k n
  | string s=>exact .string s
  | nilFunc=>exact .nilFunc
  | nilIface=>exact .nilIface
  | pnil=>exact .pnil
  | mnil=>exact .mnil
  | ptr e s=>exact .ptr (h _ _ e) s
  | snil l c=>exact .snil l c
  | slice e s c=>exact .slice (h _ _ e) s c
  | vague e=>exact .vague e
  | map e=>exact .map (h _ _ e)
  | func e hs _ hc _ ih1 ih2=>exact .func (e.mono h) hs ih1 hc ih2
  | iface t _ ih=>exact .iface t ih
  | agg hs _ ih=>exact .agg hs ih
  | tuple hs _ ih=>exact .tuple hs ih
theorem VR.undef (i:Inj):VR i undef undef:=.tuple rfl (fun k h=>by simp at h)
inductive VRs (i:Inj):List Value→List Value→Prop
  | nil:VRs i [] []
  | cons {v v':Value} {l l':List Value}:VR i v v'→VRs i l l'→VRs i (v :: l) (v' :: l')
theorem VRs.mono {i j:Inj} (h:i.le j) {v v':List Value} (r:VRs i v v'):VRs j v v':=by
  induction r with
  | nil=>exact .nil
  | cons a _ ih=>exact .cons (a.mono h) ih
theorem VRs.length {i:Inj} {v v':List Value} (r:VRs i v v'):v.length=v'.length:=by
  induction r with
  | nil=>rfl
  | cons _ _ ih=>simp [ih]
theorem VRs.get {i:Inj} {l l':List Value} (r:VRs i l l'):∀ {k:Nat} {v:Value},l[k]? = some v→∃ v',l'[k]? = some v'∧VR i v v':=by
  induction r with
  | nil=>intro k v h;simp at h
  | cons a _ ih =>
    intro k v h
    cases k with
    | zero=>simp at h;subst h;exact⟨_,rfl,a⟩
    | succ k=>simp at h;simpa using ih h
theorem VRs.append {i:Inj} {a a' b b':List Value} (h:VRs i a a') (k:VRs i b b'):VRs i (a++b) (a'++b'):=by
  induction h with
  | nil=>exact k
  | cons x _ ih=>exact .cons x ih
theorem VRs.of_get {i:Inj}:∀ {l l':List Value},l.length=l'.length→(∀ k (h:k<l.length) (h':k<l'.length),VR i l[k] l'[k])→VRs i l l'
  | [],[],_,_=>.nil
  | _ :: _,_ :: _,hl,h=>.cons (h 0 (by simp) (by simp)) (VRs.of_get (by simpa using hl) (fun k h1 h2=>h (k+1) (by simpa using h1) (by simpa using h2)))
  | [],_ :: _,hl,_=>by simp at hl
  | _ :: _,[],hl,_=>by simp at hl
theorem VRs.at_ {i:Inj} {l l':List Value} (r:VRs i l l'):∀ k (h:k<l.length) (h':k<l'.length),VR i l[k] l'[k]:=by
  induction r with
  | nil=>intro k h;simp at h
  | cons a _ ih =>
    intro k h h'
    cases k with
    | zero=>exact a
    | succ k=>exact ih k (by simpa using h) (by simpa using h')
theorem VRs.of_arr {i:Inj} {a b:Array Value} (hs:a.size=b.size) (h:∀ k (h:k<a.size) (h':k<b.size),VR i a[k] b[k]):VRs i a.toList b.toList:=
  VRs.of_get (by simpa using hs) (fun k h1 h2=>by simpa using h k (by simpa using h1) (by simpa using h2))
theorem VR.cells {i:Inj} {v v':Value} (r:VR i v v'):VRs i v.cells.toList v'.cells.toList:=by
  cases r with
  | agg hs h=>exact VRs.of_arr hs h
  | _=>refine .cons ?_ .nil;constructor<;>assumption
structure ALoop where
  state:LoopState
  pending:Option Code
  n:Nat
  env:Nat→Value
  params:Array Tmp
  assign:Code
  body:Code
  defers:Nat
inductive AB where
  | cells (c:List Value) (elem:TypeId) (opn:Option Nat) (ro:Bool)
  | loop (l:ALoop)
  | defs (d:Option (List Deferred))
  | dead
abbrev AH:=List AB
def AB.owned:AB→Bool
  | .cells _ _ _ ro=>!ro
  | .dead=>false
  | _=>true
def AB.live:AB→Bool
  | .dead=>false
  | _=>true
theorem AB.owned_live {x:AB} (h:x.owned=true):x.live=true:=by cases x<;>simp_all [AB.owned,AB.live]
structure LoopR (i:Inj) (l:ALoop) (l':Loop):Prop where
  state:l'.state=l.state
  pending:l'.pending=l.pending
  params:l'.params=l.params
  assign:l'.assign=l.assign
  body:l'.body=l.body
  size:l'.tmps.size=l.n
  env:∀ t,VR i (l.env t) (l'.tmps.getD t undef)
  defers:∃ L,i l.defers=some L∧l'.defers=L.blk
inductive DefR (i:Inj):Deferred→Deferred→Prop
  | collected {r:Nat} {L:Loc}:i r=some L→DefR i ⟨.collected r,#[]⟩ ⟨.collected L.blk,#[]⟩
  | fn {f f':Fn} {c c' a a':Array Value}:FnR i f f'→VRs i c.toList c'.toList→VRs i a.toList a'.toList→DefR i ⟨.fn f c,a⟩ ⟨.fn f' c',a'⟩
inductive DefsR (i:Inj):List Deferred→List Deferred→Prop
  | nil:DefsR i [] []
  | cons {d d':Deferred} {l l':List Deferred}:DefR i d d'→DefsR i l l'→DefsR i (d :: l) (d' :: l')
theorem DefR.mono {i j:Inj} (h:i.le j) {d d':Deferred} (r:DefR i d d'):DefR j d d':=by
  cases r with
  | collected e=>exact .collected (h _ _ e)
  | fn a b c=>exact .fn (a.mono h) (b.mono h) (c.mono h)
theorem DefsR.mono {i j:Inj} (h:i.le j) {d d':List Deferred} (r:DefsR i d d'):DefsR j d d':=by
  induction r with
  | nil=>exact .nil
  | cons a _ ih=>exact .cons (a.mono h) ih
def BlkR (i:Inj) (x:AB) (L:Loc) (w:World):Prop:=
  match x with
  | .cells c e opn ro=>∃ c' e' fr,w.heap[L.blk]? = some (.cells c' e' fr)∧(∀ (k:Nat) (v:Value),c[k]? = some v→∃ v',c'[L.base+k]? = some v'∧VR i v v') ∧
      (ro=false→L.base=0∧e'=e∧fr=(0,0)∧c'.size=c.length+L.ext*L.esz)∧(opn=none→L.ext=0)∧(∀ s,opn=some s→L.esz=s)
  | .loop l=>∃ l',w.heap[L.blk]? = some (.loop l')∧LoopR i l l'
  | .defs none=>w.heap[L.blk]? = some (.deferred none)
  | .defs (some d)=>∃ d',w.heap[L.blk]? = some (.deferred (some d'))∧DefsR i d d'
  | .dead=>True
theorem BlkR.mono {i j:Inj} (h:i.le j) {x:AB} {L:Loc} {w:World} (r:BlkR i x L w):BlkR j x L w:=by
  match x,r with
  | .cells c e opn ro,r =>
    obtain⟨c',e',fr,h1,h2,h3,h4⟩:=r
    exact⟨c',e',fr,h1,fun k v hk=>let ⟨v',a,b⟩:=h2 k v hk;⟨v',a,b.mono h⟩,h3,h4⟩
  | .loop l,r =>
    obtain⟨l',h1,h2⟩:=r
    exact⟨l',h1,{ h2 with env:=fun t=>(h2.env t).mono h,defers:=let ⟨L,a,b⟩:=h2.defers;⟨L,h _ _ a,b⟩ }⟩
  | .defs none,r=>exact r
  | .defs (some d),r=>obtain⟨d',h1,h2⟩:=r;exact⟨d',h1,h2.mono h⟩
  | .dead,_=>trivial
theorem BlkR.heap {i:Inj} {x:AB} {L:Loc} {w w':World} (h:w'.heap[L.blk]? = w.heap[L.blk]?) (r:BlkR i x L w):BlkR i x L w':=by
  match x,r with
  | .cells c e opn ro,r =>
    obtain⟨c',e',fr,h1,h2⟩:=r
    exact⟨c',e',fr,h.trans h1,h2⟩
  | .loop l,r=>obtain⟨l',h1,h2⟩:=r;exact⟨l',h.trans h1,h2⟩
  | .defs none,r=>exact h.trans r
  | .defs (some d),r=>obtain⟨d',h1,h2⟩:=r;exact⟨d',h.trans h1,h2⟩
  | .dead,_=>trivial
theorem BlkR.lt {i:Inj} {x:AB} {L:Loc} {w:World} (hl:x.live=true) (r:BlkR i x L w):L.blk<w.heap.size:=by
  have key:∀ o,w.heap[L.blk]? = some o→L.blk<w.heap.size:=fun o ho=>by
    rcases Nat.lt_or_ge L.blk w.heap.size with h|h
    · exact h
    · rw [Array.getElem?_eq_none h] at ho;cases ho
  match x,r with
  | .cells c e opn ro,r=>obtain⟨c',e',fr,h1,_⟩:=r;exact key _ h1
  | .loop l,r=>obtain⟨l',h1,_⟩:=r;exact key _ h1
  | .defs none,r=>exact key _ r
  | .defs (some d),r=>obtain⟨d',h1,_⟩:=r;exact key _ h1
  | .dead,_=>simp [AB.live] at hl
structure Rel (i:Inj) (H:AH) (w:World):Prop where
  dom:∀ b L,i b=some L→b<H.length
  blk:∀ b L x,i b=some L→H[b]? = some x→BlkR i x L w
  inj:∀ b1 b2 L1 L2 x1 x2,i b1=some L1→i b2=some L2→H[b1]? = some x1→H[b2]? = some x2→x1.owned=true→x2.live=true→L1.blk=L2.blk→b1=b2
structure Ext (i j:Inj) (H H':AH) (w w':World):Prop where
  dom:∀ b L,i b=some L→b<H.length
  le:i.le j
  os:w'.os=w.os
  tape:w'.tape=w.tape
  output:w'.output=w.output
  size:w.heap.size≤w'.heap.size
  len:H.length≤H'.length
  own:∀ b x',b<H.length→H'[b]? = some x'→x'.owned=true→∃ x,H[b]? = some x∧x.owned=true
  frame:∀ c,c<w.heap.size→(∀ b L x,i b=some L→H[b]? = some x→x.owned=true→L.blk≠c)→w'.heap[c]? = w.heap[c]?
  aframe:∀ b,b<H.length→i b=none→H'[b]? = H[b]?
  fresh:∀ b L,j b=some L→i b=some L∨(H.length≤b∧(w.heap.size≤L.blk∨∃ b0 L0 x0,i b0=some L0∧H[b0]? = some x0∧x0.owned=true∧L0.blk=L.blk))
theorem Ext.refl {i:Inj} {H:AH} {w:World} (h:Rel i H w):Ext i i H H w w:=
  ⟨h.dom,i.le_refl,rfl,rfl,rfl,Nat.le_refl _,Nat.le_refl _,fun _ x' _ h h'=>⟨x',h,h'⟩,fun _ _ _=>rfl,fun _ _ _=>rfl,fun _ _ h=>.inl h⟩
theorem Ext.trans {i j k:Inj} {H H' H'':AH} {w w' w'':World} (a:Ext i j H H' w w') (b:Ext j k H' H'' w' w''):Ext i k H H'' w w'' where
  dom:=a.dom
  le:=Inj.le_trans a.le b.le
  os:=b.os.trans a.os
  tape:=b.tape.trans a.tape
  output:=b.output.trans a.output
  size:=Nat.le_trans a.size b.size
  len:=Nat.le_trans a.len b.len
  own:=fun n x' hn h h'=>by
    obtain⟨y,hy,hy'⟩:=b.own n x' (Nat.lt_of_lt_of_le hn a.len) h h'
    exact a.own n y hn hy hy'
  frame:=fun c hc h=>by
    refine (b.frame c (Nat.lt_of_lt_of_le hc a.size) ?_).trans (a.frame c hc h)
    intro n L x hn hx ho hL
    rcases a.fresh n L hn with h1|⟨h1,h2⟩
    · obtain⟨y,hy,hy'⟩:=a.own n x (a.dom n L h1) hx ho
      exact h n L y h1 hy hy' hL
    · rcases h2 with h2|⟨b0,L0,x0,e1,e2,e3,e4⟩
      · omega
      · exact h b0 L0 x0 e1 e2 e3 (e4.trans hL)
  aframe:=fun n hn h=>by
    have hj:j n=none:=by
      cases e:j n with
      | none=>rfl
      | some L =>
        rcases a.fresh n L e with h1|⟨h1,_⟩
        · rw [h] at h1;cases h1
        · omega
    exact (b.aframe n (Nat.lt_of_lt_of_le hn a.len) hj).trans (a.aframe n hn h)
  fresh := fun n L h=>by
    rcases b.fresh n L h with h1|⟨h1,h2⟩
    · exact a.fresh n L h1
    · refine .inr ⟨Nat.le_trans a.len h1,?_⟩
      rcases h2 with h2|⟨b0,L0,x0,e1,e2,e3,e4⟩
      · exact .inl (Nat.le_trans a.size h2)
      · rcases a.fresh b0 L0 e1 with h3|⟨h3,h4⟩
        · obtain⟨y,hy,hy'⟩:=a.own b0 x0 (a.dom b0 L0 h3) e2 e3
          exact .inr ⟨b0,L0,y,h3,hy,hy',e4⟩
        · rcases h4 with h4|⟨b1,L1,x1,f1,f2,f3,f4⟩
          · exact .inl (e4 ▸ h4)
          · exact .inr ⟨b1,L1,x1,f1,f2,f3,f4.trans e4⟩
theorem Rel.world {i:Inj} {H:AH} {w w':World} (h:Rel i H w) (e:w'.heap=w.heap):Rel i H w':=
  ⟨h.dom,fun b L x hb hx=>(h.blk b L x hb hx).heap (by rw [e]),h.inj⟩
theorem Ext.drawn {i:Inj} {H:AH} {w:World} (h:Rel i H w) (n:Nat):Ext i i H H w { w with drawn:=n }:=
  ⟨h.dom,i.le_refl,rfl,rfl,rfl,Nat.le_refl _,Nat.le_refl _,fun _ x' _ h h'=>⟨x',h,h'⟩,fun _ _ _=>rfl,fun _ _ _=>rfl,fun _ _ h=>.inl h⟩
theorem Rel.grow {i:Inj} {H:AH} {w:World} (h:Rel i H w) (xs:AH):Rel i (H++xs) w where
  dom:=fun b L e=>by have:=h.dom b L e;simp;omega
  blk:=fun b L x e hx=>h.blk b L x e (by rwa [List.getElem?_append_left (h.dom b L e)] at hx)
  inj:=fun b1 b2 L1 L2 x1 x2 e1 e2 h1 h2=>h.inj b1 b2 L1 L2 x1 x2 e1 e2 (by rwa [List.getElem?_append_left (h.dom b1 L1 e1)] at h1) (by rwa [List.getElem?_append_left (h.dom b2 L2 e2)] at h2)
theorem rel_new {i:Inj} {H:AH} {w:World} (h:Rel i H w) (b:Nat) (x:AB) (o:Obj) (esz ext:Nat) (hb:i b=none) (hx:H[b]? = some x)
    (hbl:BlkR (i.upd b ⟨w.heap.size,0,esz,ext⟩) x ⟨w.heap.size,0,esz,ext⟩ (w.alloc o)) :
    Rel (i.upd b ⟨w.heap.size,0,esz,ext⟩) H (w.alloc o):=by
  have hle:i.le (i.upd b ⟨w.heap.size,0,esz,ext⟩):=Inj.le_upd hb
  have hold:∀ n L y,i n=some L→H[n]? = some y→y.live=true→L.blk<w.heap.size:=fun n L y e hy hyl=>(h.blk n L y e hy).lt hyl
  refine⟨fun n L e=>?_,fun n L y e hy=>?_,fun b1 b2 L1 L2 x1 x2 e1 e2 h1 h2 o1 l2 hL=>?_⟩
  · by_cases hn:n=b
    · subst hn
      rcases Nat.lt_or_ge n H.length with h1|h1
      · exact h1
      · rw [List.getElem?_eq_none h1] at hx;cases hx
    · simp [Inj.upd,hn] at e;exact h.dom n L e
  · by_cases hn:n=b
    · subst hn
      simp [Inj.upd] at e
      subst e
      rw [hx] at hy
      cases hy
      exact hbl
    · simp [Inj.upd,hn] at e
      have hr:=h.blk n L y e hy
      by_cases hyl:y.live=true
      · refine (hr.mono hle).heap ?_
        exact heap_alloc_old w o L.blk (hold n L y e hy hyl)
      · cases y<;>simp [AB.live] at hyl
        trivial
  · by_cases n1:b1=b
    · by_cases n2:b2=b
      · rw [n1,n2]
      · simp [Inj.upd,n2] at e2
        have:=hold b2 L2 x2 e2 h2 l2
        subst n1
        simp [Inj.upd] at e1
        subst e1
        simp at hL
        omega
    · simp [Inj.upd,n1] at e1
      by_cases n2:b2=b
      · have:=hold b1 L1 x1 e1 h1 (AB.owned_live o1)
        subst n2
        simp [Inj.upd] at e2
        subst e2
        simp at hL
        omega
      · simp [Inj.upd,n2] at e2
        exact h.inj b1 b2 L1 L2 x1 x2 e1 e2 h1 h2 o1 l2 hL
theorem ext_new {i:Inj} {H:AH} {w:World} (h:Rel i H w) (x:AB) (o:Obj) (esz ext:Nat) :
    Ext i (i.upd H.length ⟨w.heap.size,0,esz,ext⟩) H (H++[x]) w (w.alloc o) where
  dom:=h.dom
  le:=Inj.le_upd (by
    cases e:i H.length with
    | none=>rfl
    | some L=>have:=h.dom _ _ e;omega)
  os:=rfl
  tape:=rfl
  output:=rfl
  size:=by simp
  len:=by simp
  own:=fun b x' hb hx ho=>⟨x',by rwa [List.getElem?_append_left hb] at hx,ho⟩
  frame:=fun c hc _=>heap_alloc_old w o c hc
  aframe:=fun b hb _=>List.getElem?_append_left hb
  fresh:=fun b L e=>by
    by_cases hb:b=H.length
    · subst hb
      simp [Inj.upd] at e
      subst e
      exact .inr ⟨Nat.le_refl _,.inl (Nat.le_refl _)⟩
    · simp [Inj.upd,hb] at e;exact .inl e
theorem Rel.none_at {i:Inj} {H:AH} {w:World} (h:Rel i H w):i H.length=none:=by
  cases e:i H.length with
  | none=>rfl
  | some L=>have:=h.dom _ _ e;omega
theorem qpf {i:Inj} {H:AH} {w:World} (h:Rel i H w) (x:AB) (o:Obj) (esz ext:Nat)
    (hbl:BlkR (i.upd H.length ⟨w.heap.size,0,esz,ext⟩) x ⟨w.heap.size,0,esz,ext⟩ (w.alloc o)) :
    Rel (i.upd H.length ⟨w.heap.size,0,esz,ext⟩) (H++[x]) (w.alloc o):=
  rel_new (h.grow [x]) H.length x o esz ext h.none_at (by simp) hbl
theorem blkR_cells {j:Inj} {c c':List Value} (h:VRs j c c') (e:TypeId) (w:World) (esz:Nat) :
    BlkR j (.cells c e none false) ⟨w.heap.size,0,esz,0⟩ (w.alloc (.cells c'.toArray e)):=
  ⟨c'.toArray,e,(0,0),heap_alloc_new w _,fun k v hk=>by
    obtain⟨v',h1,h2⟩:=h.get hk
    exact⟨v',by simpa using h1,h2⟩,fun _=>⟨rfl,rfl,rfl,by simp [h.length]⟩,fun _=>rfl,fun s hs=>by cases hs⟩
theorem Rel.cell {i:Inj} {H:AH} {w:World} (h:Rel i H w) {b:Nat} {L:Loc} {c:List Value} {e:TypeId} {o:Option Nat} {r:Bool} {k:Nat} {v:Value} (hb:i b=some L) (hH:H[b]? = some (.cells c e o r))
    (hk:c[k]? = some v):∃ v',w.cell? ⟨L.blk,L.base+k,none⟩=some v'∧VR i v v':=by
  obtain⟨c',e',fr,h1,h2,_⟩:=h.blk b L _ hb hH
  obtain⟨v',h3,h4⟩:=h2 k v hk
  exact⟨v',by simp [World.cell?,h1,h3],h4⟩
end Go.Sim
