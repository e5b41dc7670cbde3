/- Part of the proof: SimL, SimM, SimN. -/
import Derived.Test.YtbfpepbfpebmmaaGreatTLinSimGToSimK
import Derived.Test.YtbfpepbfpebmmaaGreatTLinSimE3ToSimE4
set_option linter.all false
namespace Go.Sim
open Go
inductive XO where
  | mov
  | pick
  | bin (op:BinOp) (m:Nat)
  | un (op:UnOp)
  | conv (k:IntKind)
  | ext (ix:Nat)
  | ld (sz:Option Nat)
  | new (c:List Value) (e:TypeId)
  | box (e:TypeId)
  | st (sz:Nat)
  | fld (off:Nat)
  | ixA (len sz:Nat)
  | ixS (sz:Nat)
  | slA (len sz:Nat) (lo hi:Bool)
  | slS (sz:Nat) (lo hi:Bool)
  | make (z:Value) (sz bytes:Nat) (e:TypeId)
  | bsl (init:List Value) (len:Nat) (pl:List (Nat×Nat)) (e:TypeId)
  | fn (g:FuncId) (nf nc:Nat)
  | lenA (n:Nat)
  | lenS
  | lenT
  | min2
  | max2
  | app (e:TypeId) (sz bytes:Nat)
  | bld (init:List Value) (pl:List (Nat×Nat))
  | prt (sz:Option Nat) (off:Nat)
  | ixV (len es:Nat) (sz:Option Nat)
  | call
  | nilc
  | bad
  | cpy (sz:Nat)
  | apz (z:List Value) (sz bytes:Nat) (e:TypeId)
  | capN
  | ext3 (b:Bool) (g:Nat)
  | ixT
  | dfr (gs:List FuncId)
  | sl3 (sz:Nat)
  | clr (z:List Value)
  deriving Inhabited
def qbn:Value→List Value
  | .agg cs=>cs.toList
  | v=>[v]
theorem qhr (v:Value):qbn v=v.cells.toList:=by cases v<;>rfl
def putL (c:List Value) (off:Nat):List Value→List Value
  | [v]=>c.set off v
  | vs=>qcq c off vs
theorem putL_eq {c:List Value} {off:Nat} {vs:List Value} (h:off+vs.length≤c.length):putL c off vs=qcq c off vs:=by
  unfold putL
  split
  · rename_i v
    simp at h
    unfold qcq
    rw [List.set_eq_take_append_cons_drop,if_pos (by omega)]
    simp
  · rfl
def qbv (c:List Value):List (Nat×Nat)→List Value→Option (List Value)
  | (off,n) :: pl,v :: vs=>if (qbn v).length=n∧off+n≤c.length then qbv (putL c off (qbn v)) pl vs else none
  | [],[]=>some c
  | _,_=>none
theorem qrs (off:Nat):∀ (l:List Value) (n:Nat) (a:Array Value),off+n+l.length≤a.size →
    ((l.zipIdx n).foldl (fun cs (x:Value×Nat)=>cs.setIfInBounds (off+x.2) x.1) a).toList=qcq a.toList (off+n) l
  | [],n,a,_=>by simp [qcq]
  | x :: l,n,a,h=>by
    simp only [List.zipIdx_cons,List.foldl_cons]
    simp at h
    rw [qrs off l (n+1) _ (by simp;omega)]
    refine List.ext_getElem? fun k=>?_
    rw [qgc _ _ _ _ (by simp;omega),qgc _ _ _ _ (by simp;omega)]
    simp only [Array.toList_setIfInBounds,List.length_cons,List.getElem?_set]
    by_cases hk:off+n=k
    · subst hk
      have:off+n<a.size:=by omega
      simp [this]
      intro h;omega
    · rw [if_neg hk]
      by_cases h1:off+(n+1)≤k∧k<off+(n+1)+l.length
      · rw [if_pos h1,if_pos (by omega),show k-(off+n)=(k-(off+(n+1)))+1 by omega,List.getElem?_cons_succ]
      · rw [if_neg h1,if_neg (by omega)]
theorem qhv {place:Nat→Option (Nat×Nat)}:∀ (ps:List Nat) (vs:List Value) (pl:List (Nat×Nat)) (a:Array Value) (r:List Value),ps.mapM place=some pl→qbv a.toList pl vs=some r →
    Instr.fill place a (ps.zip vs)=some r.toArray
  | [],vs,pl,a,r,hp,h=>by
    simp at hp
    subst hp
    cases vs with
    | nil=>simp [qbv] at h;subst h;simp [Instr.fill]
    | cons v vs=>simp [qbv] at h
  | p :: ps,[],pl,a,r,hp,h=>by
    simp only [List.mapM_cons,Option.bind_eq_bind,Option.bind_eq_some_iff] at hp
    obtain⟨x,h1,y,h2,h3⟩:=hp
    cases h3
    simp [qbv] at h
  | p :: ps,v :: vs,pl,a,r,hp,h=>by
    simp only [List.mapM_cons,Option.bind_eq_bind,Option.bind_eq_some_iff] at hp
    obtain⟨x,h1,y,h2,h3⟩:=hp
    cases h3
    obtain⟨off,n⟩:=x
    simp only [qbv,qhr,Array.length_toList] at h
    split at h
    · rename_i hc
      simp only [List.zip_cons_cons,Instr.fill,h1]
      rw [if_neg (by simp;omega)]
      refine qhv ps vs y _ r h2 ?_
      rw [←Array.foldl_toList,Array.toList_zipIdx,qrs _ _ _ _ (by simp;omega),Nat.add_zero]
      rw [putL_eq (by simp;omega)] at h
      exact h
    · cases h
def xbin (op:BinOp) (m:Nat) (x y:Value):Option Value:=
  match op,x,y with
  | .shl,.int k a,.int _ b=>if 0≤b then some (.int k (k.wrap (a*2 ^ (min b.toNat k.bits)))) else none
  | .shr,.int k a,.int _ b=>if 0≤b then some (.int k (a.fdiv (2 ^ (min b.toNat k.bits)))) else none
  | .add,.int k a,.int k' b=>if k=k' then some (.int k (k.wrap (a+b))) else none
  | .sub,.int k a,.int k' b=>if k=k' then some (.int k (k.wrap (a-b))) else none
  | .mul,.int k a,.int k' b=>if k=k' then some (.int k (k.wrap (a*b))) else none
  | .quo,.int k a,.int k' b=>if k=k'∧b≠0 then some (.int k (k.wrap (a.tdiv b))) else none
  | .rem,.int k a,.int k' b=>if k=k'∧b≠0 then some (.int k (a.tmod b)) else none
  | .and,.int k a,.int k' b=>if k=k' then some (.int k (k.wrap (BitVec.ofInt k.bits a &&& BitVec.ofInt k.bits b).toNat)) else none
  | .or,.int k a,.int k' b=>if k=k' then some (.int k (k.wrap (BitVec.ofInt k.bits a ||| BitVec.ofInt k.bits b).toNat)) else none
  | .xor,.int k a,.int k' b=>if k=k' then some (.int k (k.wrap (BitVec.ofInt k.bits a ^^^ BitVec.ofInt k.bits b).toNat)) else none
  | .andNot,.int k a,.int k' b=>if k=k' then some (.int k (k.wrap (BitVec.ofInt k.bits a &&& ~~~ BitVec.ofInt k.bits b).toNat)) else none
  | .eql,.int k a,.int k' b=>if k=k' then some (.bool (a == b)) else none
  | .neq,.int k a,.int k' b=>if k=k' then some (.bool (a != b)) else none
  | .lss,.int k a,.int k' b=>if k=k' then some (.bool (decide (a<b))) else none
  | .leq,.int k a,.int k' b=>if k=k' then some (.bool (decide (a≤b))) else none
  | .gtr,.int k a,.int k' b=>if k=k' then some (.bool (decide (a > b))) else none
  | .geq,.int k a,.int k' b=>if k=k' then some (.bool (decide (a≥b))) else none
  | .eql,.bool a,.bool b=>if m=1 then some (.bool (a == b)) else none
  | .neq,.bool a,.bool b=>if m=1 then some (.bool (!(a == b))) else none
  | .eql,.slice a _ _,.slice none _ _=>if m=2 then some (.bool a.isNone) else none
  | .neq,.slice a _ _,.slice none _ _=>if m=2 then some (.bool (!a.isNone)) else none
  | .eql,.agg a,.agg b=>if m=3+a.size then (eqZ a.toList b.toList).map (fun r=>.bool r) else none
  | .neq,.agg a,.agg b=>if m=3+a.size then (eqZ a.toList b.toList).map (fun r=>.bool !r) else none
  | _,_,_=>none
def isBoolT (P:Program) (t:TypeId):Bool:=P.underlying t matches some .bool
def binM (P:Program) (t:TypeId):Nat:=if isBoolT P t then 1 else if (slT P t).isSome then 2 else match flatT P t with|some n=>3+n|none=>0
theorem binM_1 {P:Program} {t:TypeId} (h:binM P t=1):(P.underlying t matches some .bool)=true:=by
  unfold binM at h
  split at h
  · rename_i e;exact e
  · split at h
    · cases h
    · split at h<;>omega
theorem binM_2 {P:Program} {t:TypeId} (h:binM P t=2):(slT P t).isSome=true:=by
  unfold binM at h
  split at h
  · cases h
  · split at h
    · rename_i e;exact e
    · split at h<;>omega
theorem binM_3 {P:Program} {t:TypeId} {n:Nat} (h:binM P t=3+n):flatT P t=some n:=by
  unfold binM at h
  split at h
  · omega
  · split at h
    · omega
    · split at h
      · rename_i k e;rw [e];congr 1;omega
      · omega
theorem xbin_ebin {P:Program} {op:BinOp} {t:TypeId} {x y r:Value} (h:xbin op (binM P t) x y=some r):ebin P op t x y=some r:=by
  unfold xbin at h
  split at h
  all_goals first
    | (simp only [ebin];exact h)
    | (split at h
       · rename_i e;exact (if_pos (binM_1 e)).trans h
       · cases h)
    | (split at h
       · rename_i e;exact (if_pos (binM_2 e)).trans h
       · cases h)
    | (split at h
       · rename_i e;exact (if_pos (binM_3 e)).trans h
       · cases h)
    | cases h
def qbc (x:XO) (vs:List Value):Option Value:=
  match x,vs with
  | .mov,[v]=>some v
  | .pick,[.bool b,u,v]=>some (if b then u else v)
  | .bin op m,[u,v]=>xbin op m u v
  | .un op,[v]=>eun op v
  | .conv k,[.int _ n]=>some (.int k (k.wrap n))
  | .ext ix,[.tuple cs]=>cs.toList[ix]?
  | .fld off,[.pointer (some a)]=>if a.spot=none then some (.pointer (some ⟨a.block,a.off+off,none⟩)) else none
  | .ixA len sz,[.pointer (some a),.int _ n]=>if a.spot=none∧0≤n∧n<len then some (.pointer (some ⟨a.block,a.off+n.toNat*sz,none⟩)) else none
  | .ixS sz,[.slice (some a) l _,.int _ n]=>if a.spot=none∧0≤n∧n<l then some (.pointer (some ⟨a.block,a.off+n.toNat*sz,none⟩)) else none
  | .slA n sz lo hi,.pointer (some a) :: vs=>match bnds lo hi vs with
    | some (l,h)=>if a.spot=none∧0≤l.getD 0∧l.getD 0≤h.getD n∧h.getD n≤n then
          some (.slice (some (if n=(l.getD 0).toNat then a else⟨a.block,a.off+(l.getD 0).toNat*sz,none⟩)) ((h.getD n).toNat-(l.getD 0).toNat) (n-(l.getD 0).toNat)) else none
    | none=>none
  | .slS _ lo hi,.slice none 0 0 :: vs=>match bnds lo hi vs with
    | some (l,h)=>if l.getD 0=0∧h.getD 0=0 then some (.slice none 0 0) else none
    | none=>none
  | .slS sz lo hi,.slice (some a) n c :: vs=>match bnds lo hi vs with
    | some (l,h)=>if a.spot=none∧0≤l.getD 0∧l.getD 0≤h.getD n∧h.getD n≤c then
          (if l.getD 0=0 then some (.slice (some a) (h.getD n).toNat c)
           else if l.getD 0<c then some (.slice (some ⟨a.block,a.off+(l.getD 0).toNat*sz,none⟩) ((h.getD n).toNat-(l.getD 0).toNat) (c-(l.getD 0).toNat))
           else some (.slice (some ⟨a.block,a.off,some 0⟩) 0 0)) else none
    | none=>none
  | .fn g nf nc,vs=>if vs.length=nf+nc then some (.func (.func g) (vs.take nf).toArray (vs.drop nf).toArray) else none
  | .lenA n,[_]=>some (.int .i64 n)
  | .lenS,[.slice _ n _]=>some (.int .i64 n)
  | .lenT,[.string s]=>some (.int .i64 s.size)
  | .min2,[.int k a,.int k' b]=>if k=k' then some (.int k (if b<a then b else a)) else none
  | .max2,[.int k a,.int k' b]=>if k=k' then some (.int k (if a<b then b else a)) else none
  | .bld init pl,vs=>(qbv init pl vs).map fun l=>.agg l.toArray
  | .prt sz off,[.agg cs]=>qdc sz cs.toList off
  | .ixV len es sz,[.agg cs,.int _ n]=>if 0≤n∧n<len then qdc sz cs.toList (n.toNat*es) else none
  | .nilc,[.pointer (some a)]=>some (.pointer (some a))
  | .capN,[.slice none 0 0]=>some (.int .i64 0)
  | .ext3 b g,[.func (.func g') f c,.int .u64 x,.int .u64 y,.int .u64 z]=>if g'=g∧f.size=0∧c.size=0∧0≤x∧0≤y∧y<18446744073709551616∧0≤z∧z≤1 then some (ext3V b x y z) else none
  | .ixT,[.string s,.int _ n]=>if 0≤n then (s[n.toNat]?).map fun b=>.int .u8 b.toNat else none
  | .dfr gs,[.func (.func g) _ _]=>if gs.contains g then some undef else none
  | .sl3 sz,[.slice (some a) _ c,.int _ l,.int _ h,.int _ m]=>match a.spot with
    | none=>if 0≤l∧l≤h∧h≤m∧m≤c∧l<m then some (.slice (some ⟨a.block,a.off+l.toNat*sz,none⟩) (h.toNat-l.toNat) (m.toNat-l.toNat)) else none
    | some _=>none
  | _,_=>none
def qbh (sz:Option Nat) (H:AH) (vs:List Value):Option Value:=
  match vs with
  | [.pointer (some a)]=>match H[a.block]?,a.spot with
    | some (.cells c _ _ _),none=>qdc sz c a.off
    | _,_=>none
  | _=>none
def xnew (x:XO) (vs:List Value):Option (List Value×TypeId×(Nat→Value)):=
  match x,vs with
  | .new c e,[]=>some (c,e,mkPtr)
  | .box e,[v]=>some (qbn v,e,mkPtr)
  | .make z sz bytes e,[.int _ l,.int _ c]=>if 0≤l∧l≤c∧(bytes:Int)*c≤281474976710656∧c≤9223372036854775807 then some (madeL z (c.toNat*sz),e,mkSl l.toNat c.toNat) else none
  | .bsl init len pl e,vs=>match qbv init pl vs with
    | some l=>some (l,e,mkSl len len)
    | none=>none
  | _,_=>none
def xact (x : XO) (H:AH) (vs:List Value):Option (Value×AH):=
  match x,vs with
  | .st sz,[.pointer (some a),v]=>match H[a.block]?,a.spot with
    | some (.cells c e o false),none=>if (qbn v).length=sz∧(qbn v).all one∧a.off+sz≤c.length then some (undef,H.set a.block (.cells (putL c a.off (qbn v)) e o false)) else none
    | _,_=>none
  | .app e sz bytes,[s,u]=>match erow H u (slen u*sz) with
    | some new=>if (slen s+slen u)*bytes≤140737488355328∧slen s+slen u≤9223372036854775807∧new.all one then
        (match s with
        | .slice none 0 0=>if slen u=0 then some (.slice none 0 0,H) else some (.slice (some ⟨H.length,0,none⟩) (slen u) (slen u),H++[.cells new e (some sz) false])
        | .slice (some a) l c =>
          (match H[a.block]?,a.spot with
          | some (.cells cc e' opn ro),none =>
            if l+slen u≤c then
              if slen u=0 then some (.slice (some a) l c,H)
              else if ro=false∧a.off+l*sz+new.length≤cc.length then some (.slice (some a) (l+slen u) c,H.set a.block (.cells (putL cc (a.off+l*sz) new) e' opn false)) else none
            else if opn=none then
              if a.off+l*sz≤cc.length then some (.slice (some ⟨H.length,0,none⟩) (l+slen u) (l+slen u),H++[.cells ((cc.drop a.off).take (l*sz)++new) e (some sz) false]) else none
            else if ro=false∧opn=some sz∧l=c∧a.off=0∧l*sz=cc.length∧e'=e then
              some (.slice (some ⟨H.length,0,none⟩) (l+slen u) (l+slen u),H.set a.block .dead++[.cells (cc++new) e (some sz) false]) else none
          | _,_=>none)
        | _=>none) else none
    | none=>none
  | .cpy sz,[.slice (some a) l _,u]=>match H[a.block]?,a.spot with
    | some (.cells cc e opn false),none=>match erow H u (Nat.min (slen u) l*sz) with
      | some new=>if new.all one∧a.off+new.length≤cc.length then some (.int .i64 (Nat.min (slen u) l:Nat),H.set a.block (.cells (qcq cc a.off new) e opn false)) else none
      | none=>none
    | _,_=>none
  | .clr z,[.slice (some a) l _]=>match H[a.block]?,a.spot with
    | some (.cells cc e opn false),none=>if 0<l∧(Builtin.zeroCells z.toArray l).toList.all one=true∧a.off+(Builtin.zeroCells z.toArray l).toList.length≤cc.length then some (.tuple #[],H.set a.block (.cells (qcq cc a.off (Builtin.zeroCells z.toArray l).toList) e opn false)) else none
    | _,_=>none
  | .apz z sz bytes e,[.slice none 0 0,.int .i64 n]=>if 0<n∧n*bytes≤140737488355328∧n≤9223372036854775807 then some (.slice (some ⟨H.length,0,none⟩) n.toNat n.toNat,H++[.cells (Builtin.zeroCells z.toArray n.toNat).toList e (some sz) false]) else none
  | _,_=>none
end Go.Sim

namespace Go.Sim
open Go
def cop0 (P : Program) (o:Oper):Option XO:=
  match o.op with
  | .move _=>some .mov
  | .assign _=>some .mov
  | .pick _ _ _=>some .pick
  | .binOp op t _ _ _=>some (.bin op (binM P t))
  | .unOp op _ _=>some (.un op)
  | .convert s d _=>if (P.underlying s).isSome then (ikT P d).map .conv else none
  | .extract _ ix=>some (.ext ix)
  | .load t _=>(qqv P t).map .ld
  | .alloc e=>match zeroT P e with
    | some z=>if ground z then some (.new (qbn z) e) else none
    | none=>none
  | .box e _=>some (.box e)
  | .store t _ _=>(szT P t).map .st
  | .fieldAddr s _ f=>(fldT P s f).map fun p=>.fld p.1
  | .indexAddr t _ _=>match arrT P t with
    | some (n,e)=>(szT P e).map fun sz=>.ixA n sz
    | none=>match slT P t with
      | some e=>(szT P e).map fun sz=>.ixS sz
      | none=>none
  | .slice t _ lo hi none=>match arrT P t with
    | some (n,e)=>(szT P e).map fun sz=>.slA n sz lo.isSome hi.isSome
    | none=>match slT P t with
      | some e=>(szT P e).map fun sz=>.slS sz lo.isSome hi.isSome
      | none=>none
  | .makeSlice t _ _=>match slT P t with
    | some e=>match P.info? e with
      | some ti=>match ti.zero with
        | some z=>if z.cells.all scal∧0<z.cells.size then some (.make z ti.size ti.bytes e) else none
        | none=>none
      | none=>none
    | none=>none
  | .buildSlice t len parts=>match slT P t with
    | some e=>match szT P e,zeroT P e with
      | some sz,some z=>if len*sz≤16777216∧z.cells.all scal∧0<z.cells.size then some (.bsl (if len*sz=0 then #[] else madeCells z.cells (len*sz)).toList len (parts.toList.map fun p=>(p.1*sz,sz)) e) else none
      | _,_=>none
    | none=>none
  | .makeFunc (.func g) first cap=>some (.fn g first.size cap.size)
  | .build t parts=>match zeroT P t with
    | some z=>if z.cells.all scal then
        match P.underlying t with
        | some (.struct fs)=>match fs.toList.mapM (fun f=>(szT P f.type).map fun n=>(f.offset,n)) with
          | some pl=>((parts.toList.map (·.1)).mapM fun i=>pl.toArray[i]?).map (.bld z.cells.toList)
          | none=>none
        | some (.array _ e)=>(szT P e).map fun sz=>.bld z.cells.toList (parts.toList.map fun p=>(p.1*sz,sz))
        | _=>none
      else none
    | none=>none
  | .field t _ f=>match P.underlying t with
    | some (.struct fs)=>match fs[f]? with
      | some fd=>(qqv P fd.type).map fun sz=>.prt sz fd.offset
      | none=>none
    | _=>none
  | .index t _ _=>match arrT P t with
    | some (len,e)=>match szT P e,qqv P e with
      | some es,some sz=>some (.ixV len es sz)
      | _,_=>none
    | none=>none
  | .call c => match c.callee with
    | .value _=>some .call
    | .builtin .len=>match c.args.toList,c.argTypes.toList with
      | [_],[t]=>match P.underlying t with
        | some .string=>some .lenT
        | some (.slice _)=>some .lenS
        | some (.array n _)=>some (.lenA n)
        | _=>none
      | _,_=>none
    | .builtin .min=>match c.args.toList with
      | [_,_]=>some .min2
      | _=>none
    | .builtin .max=>match c.args.toList with
      | [_,_]=>some .max2
      | _=>none
    | .builtin .append=>match c.args.toList,c.argTypes.toList with
      | [_, _],[t,t']=>match slT P t,slT P t' with
        | some e,some _=>match P.info? e with
          | some ti=>match ti.zero with
            | some z=>if z.cells.size=ti.size∧0<ti.size then some (.app e ti.size ti.bytes) else none
            | none=>none
          | none=>none
        | _,_=>none
      | _,_=>none
    | _=>none
  | _=>none
theorem qhs {c:Call} {b:Builtin} {l:List Operand} {t:List TypeId} (h1:c.callee=.builtin b) (h2:c.args.toList=l) (h3:c.argTypes.toList=t):c={ callee:=.builtin b,args:=l.toArray,argTypes:=t.toArray }:=by
  cases c
  simp_all
  constructor<;>(apply Array.ext';simp_all)
def ccopy (P:Program) (c:Call):Option Nat:=match c.callee with
  | .builtin .copy=>match c.args.toList,c.argTypes.toList with
    | [_,_],[t,_]=>match slT P t with
      | some e=>szT P e
      | none=>none
    | _,_=>none
  | _=>none
theorem ccopy_eq {P:Program} {c:Call} {sz:Nat} (h:ccopy P c=some sz):∃ x y t t' e,c={ callee:=.builtin .copy,args:=#[x,y],argTypes:=#[t,t'] }∧slT P t=some e∧szT P e=some sz:=by
  unfold ccopy at h
  split at h
  · rename_i hc
    split at h
    · rename_i x y t t' ha ht
      split at h
      · rename_i e he
        exact⟨x,y,t,t',e,qhs hc ha ht,he,h⟩
      · cases h
    · cases h
  · cases h
def cgrow (P:Program) (c:Call):Option (List Value×Nat×Nat×TypeId):=match c.callee with
  | .builtin .append=>match c.args.toList,c.argTypes.toList with
    | [_, _],[t,t']=>match P.underlying t,P.underlying t' with
      | some (.slice e),some (.int _)=>match P.info? e with
        | some ti=>match ti.zero with
          | some z=>if z.cells.all scal=true∧z.cells.size=ti.size∧0<ti.size then some (z.cells.toList,ti.size,ti.bytes,e) else none
          | none=>none
        | none=>none
      | _,_=>none
    | _,_=>none
  | _=>none
theorem cgrow_eq {P:Program} {c:Call} {zl:List Value} {sz b:Nat} {e:TypeId} (h:cgrow P c=some (zl,sz,b,e)):∃ x y t t' k ti z,c={ callee:=.builtin .append,args:=#[x,y],argTypes:=#[t,t'] }∧P.underlying t=some (.slice e)∧P.underlying t'=some (.int k)∧P.info? e=some ti∧ti.zero=some z ∧
    z.cells.all scal=true∧z.cells.size=ti.size∧0<ti.size∧zl=z.cells.toList∧sz=ti.size∧b=ti.bytes:=by
  unfold cgrow at h
  split at h
  · rename_i hc
    split at h
    · rename_i x y t t' ha ht
      split at h
      · rename_i e' k h1 h2
        split at h
        · rename_i ti hti
          split at h
          · rename_i z hz
            split at h
            · rename_i hcond
              cases h
              exact⟨x,y,t,t',k,ti,z,qhs hc ha ht,h1,h2,hti,hz,hcond.1,hcond.2.1,hcond.2.2,rfl,rfl,rfl⟩
            · cases h
          · cases h
        · cases h
      · cases h
    · cases h
  · cases h
def ccap (P:Program) (c:Call):Bool:=match c.callee with
  | .builtin .cap=>match c.args.toList,c.argTypes.toList with
    | [_],[t]=>match P.underlying t with
      | some (.slice _)=>true
      | _=>false
    | _,_=>false
  | _=>false
theorem ccap_eq {P:Program} {c:Call} (h:ccap P c=true):∃ x t e,c={ callee:=.builtin .cap,args:=#[x],argTypes:=#[t] }∧P.underlying t=some (.slice e):=by
  unfold ccap at h
  split at h
  · rename_i hc
    split at h
    · rename_i x t ha ht
      split at h
      · rename_i e he;exact⟨x,t,e,qhs hc ha ht,he⟩
      · cases h
    · cases h
  · cases h
def cext (P:Program) (o:Oper):Option (Bool×Nat):=match o.op with
  | .call c=>match c.callee with
    | .value (.func g)=>match P.funcs[g]? with
      | some fn=>if fn.body.isNone && (Extern.findNext fn).isNone then (if fn.name == "math/bits.Add64" then some (true,g) else if fn.name == "math/bits.Sub64" then some (false,g) else none) else none
      | none=>none
    | _=>none
  | _=>none
theorem cext_eq {P:Program} {o:Oper} {b:Bool} {g:Nat} (h:cext P o=some (b,g)):∃ c fn,o.op=.call c∧c.callee=.value (.func g)∧P.funcs[g]? = some fn∧fn.body.isNone=true∧Extern.findNext fn=none∧fn.name=if b then "math/bits.Add64" else "math/bits.Sub64" := by
  unfold cext at h
  split at h
  · rename_i c hc
    split at h
    · rename_i g' hg
      split at h
      · rename_i fn hfn
        split at h
        · rename_i hb
          rw [Bool.and_eq_true] at hb
          have hn:Extern.findNext fn=none:=by simpa using hb.2
          split at h
          · rename_i hname
            cases h
            exact⟨c,fn,hc,hg,hfn,hb.1,hn,by simpa using hname⟩
          · split at h
            · rename_i hname
              cases h
              exact⟨c,fn,hc,hg,hfn,hb.1,hn,by simpa using hname⟩
            · cases h
        · cases h
      · cases h
    · cases h
  · cases h
def copB (P:Program) (o:Oper):Option XO:=
  match cop0 P o with
  | some x=>some x
  | none=>match o.op with
    | .nilCheck _=>some .nilc
    | .defer _=>none
    | .call c=>match ccopy P c with
      | some sz=>some (.cpy sz)
      | none=>match cgrow P c with
        | some (z,sz,b,e)=>some (.apz z sz b e)
        | none=>if ccap P c=true then some .capN else some .bad
    | _=>some .bad
theorem copB_cases {P:Program} {o:Oper} {x:XO} (h:copB P o=some x):cop0 P o=some x∨(x=.nilc∧∃ a,o.op=.nilCheck a)∨(x=.bad∧∀ c,o.op≠.defer c)∨(∃ sz c,x=.cpy sz∧o.op=.call c∧ccopy P c=some sz) ∨
    (∃ z sz b e c,x=.apz z sz b e∧o.op=.call c∧cgrow P c=some (z,sz,b,e))∨(∃ c,x=.capN∧o.op=.call c∧ccap P c=true):=by
  unfold copB at h
  split at h
  · rename_i y hy;cases h;exact .inl hy
  · split at h
    · rename_i a ha;cases h;exact .inr (.inl ⟨rfl,a,ha⟩)
    · cases h
    · rename_i c hc
      split at h
      · rename_i sz hsz;cases h;exact .inr (.inr (.inr (.inl ⟨sz,c,rfl,hc,hsz⟩)))
      · split at h
        · rename_i z sz b e hg;cases h;exact .inr (.inr (.inr (.inr (.inl ⟨z,sz,b,e,c,rfl,hc,hg⟩))))
        · split at h
          · rename_i hcap;cases h;exact .inr (.inr (.inr (.inr (.inr ⟨c,rfl,hc,hcap⟩))))
          · cases h;exact .inr (.inr (.inl ⟨rfl,fun c' hc'=>by rw [hc] at hc';cases hc'⟩))
    · rename_i hd _;cases h;exact .inr (.inr (.inl ⟨rfl,hd⟩))
def cstr (P:Program) (o:Oper):Bool:=match o.op with
  | .index t _ _=>(P.underlying t matches some .string)
  | _=>false
theorem cstr_eq {P:Program} {o:Oper} (h:cstr P o=true):∃ t x y,o.op=.index t x y∧P.underlying t=some .string:=by
  unfold cstr at h
  split at h
  · rename_i t x y ho
    refine⟨t,x,y,ho,?_⟩
    split at h
    · rename_i hu;exact hu
    · cases h
  · cases h
def copC (P:Program) (o:Oper):Option XO:=
  match cext P o with
  | some (b,g)=>some (.ext3 b g)
  | none=>if cstr P o=true then some .ixT else copB P o
theorem copC_cases {P:Program} {o:Oper} {x:XO} (h:copC P o=some x):cop0 P o=some x∨(x=.nilc∧∃ a,o.op=.nilCheck a)∨(x=.bad∧∀ c,o.op≠.defer c)∨(∃ sz c,x=.cpy sz∧o.op=.call c∧ccopy P c=some sz) ∨
    (∃ z sz b e c,x=.apz z sz b e∧o.op=.call c∧cgrow P c=some (z,sz,b,e))∨(∃ c,x=.capN∧o.op=.call c∧ccap P c=true)∨(∃ b,∃ g,x=.ext3 b g∧cext P o=some (b,g))∨(x=.ixT∧cstr P o=true):=by
  unfold copC at h
  split at h
  · rename_i b g he;cases h;exact .inr (.inr (.inr (.inr (.inr (.inr (.inl ⟨b,g,rfl,he⟩))))))
  · split at h
    · rename_i hs;cases h;exact .inr (.inr (.inr (.inr (.inr (.inr (.inr ⟨rfl,hs⟩))))))
    rcases copB_cases h with h|h|h|h|h|h
    · exact .inl h
    · exact .inr (.inl h)
    · exact .inr (.inr (.inl h))
    · exact .inr (.inr (.inr (.inl h)))
    · exact .inr (.inr (.inr (.inr (.inl h))))
    · exact .inr (.inr (.inr (.inr (.inr (.inl h)))))
def csl3 (P:Program) (o:Oper):Option Nat:=match o.op with
  | .slice t _ (some _) (some _) (some _)=>(slT P t).bind (szT P)
  | _=>none
theorem csl3_eq {P:Program} {o:Oper} {sz:Nat} (h:csl3 P o=some sz):∃ t e x lo hi mx,o.op=.slice t x (some lo) (some hi) (some mx)∧slT P t=some e∧szT P e=some sz:=by
  unfold csl3 at h
  split at h
  · rename_i t x lo hi mx ho
    cases he:slT P t with
    | none=>rw [he] at h;cases h
    | some e=>rw [he] at h;exact⟨t,e,x,lo,hi,mx,ho,he,h⟩
  · cases h
def cclr (P : Program) (o:Oper):Option (List Value):=match o.op with
  | .call c => match c.callee with
    | .builtin .clear=>match c.args.toList,c.argTypes.toList with
      | [_],[t]=>match P.underlying t with
        | some (.slice e)=>match P.info? e with
          | some ti=>match ti.zero with
            | some z=>if z.cells.all scal=true then some z.cells.toList else none
            | none=>none
          | none=>none
        | _=>none
      | _,_=>none
    | _=>none
  | _=>none
theorem cclr_eq {P:Program} {o:Oper} {zl:List Value} (h:cclr P o=some zl):∃ x t e ti z,o.op=.call { callee:=.builtin .clear,args:=#[x],argTypes:=#[t] }∧P.underlying t=some (.slice e)∧P.info? e=some ti∧ti.zero=some z∧z.cells.all scal=true∧zl=z.cells.toList:=by
  unfold cclr at h
  split at h
  · rename_i c ho
    split at h
    · rename_i hc
      split at h
      · rename_i x t ha ht
        split at h
        · rename_i e hu
          split at h
          · rename_i ti hti
            split at h
            · rename_i z hz
              split at h
              · rename_i hcond
                cases h
                exact⟨x,t,e,ti,z,by rw [ho,qhs hc ha ht],hu,hti,hz,hcond,rfl⟩
              · cases h
            · cases h
          · cases h
        · cases h
      · cases h
    · cases h
  · cases h
def cop (P:Program) (o:Oper):Option XO:=
  match csl3 P o with
  | some sz=>some (.sl3 sz)
  | none=>match cclr P o with
    | some z=>some (.clr z)
    | none=>copC P o
theorem qgr {P:Program} {o:Oper} {x:XO} (h:cop P o=some x):cop0 P o=some x∨(x=.nilc∧∃ a,o.op=.nilCheck a)∨(x=.bad∧∀ c,o.op≠.defer c)∨(∃ sz c,x=.cpy sz∧o.op=.call c∧ccopy P c=some sz) ∨
    (∃ z sz b e c,x=.apz z sz b e∧o.op=.call c∧cgrow P c=some (z,sz,b,e))∨(∃ c,x=.capN∧o.op=.call c∧ccap P c=true)∨(∃ b,∃ g,x=.ext3 b g∧cext P o=some (b,g))∨(x=.ixT∧cstr P o=true)∨(∃ sz,x=.sl3 sz∧csl3 P o=some sz)∨(∃ z,x=.clr z∧cclr P o=some z):=by
  unfold cop at h
  split at h
  · rename_i sz he;cases h;exact .inr (.inr (.inr (.inr (.inr (.inr (.inr (.inr (.inl ⟨sz,rfl,he⟩))))))))
  · split at h
    · rename_i z he;cases h;exact .inr (.inr (.inr (.inr (.inr (.inr (.inr (.inr (.inr ⟨z,rfl,he⟩))))))))
    rcases copC_cases h with h|h|h|h|h|h|h|h
    · exact .inl h
    · exact .inr (.inl h)
    · exact .inr (.inr (.inl h))
    · exact .inr (.inr (.inr (.inl h)))
    · exact .inr (.inr (.inr (.inr (.inl h))))
    · exact .inr (.inr (.inr (.inr (.inr (.inl h)))))
    · exact .inr (.inr (.inr (.inr (.inr (.inr (.inl h))))))
    · exact .inr (.inr (.inr (.inr (.inr (.inr (.inr (.inl h)))))))
theorem cop_nd {P:Program} {o:Oper} {x:XO} (h:cop P o=some x):∀ c,o.op≠.defer c:=by
  intro c hc
  rcases qgr h with h|⟨_,a,ha⟩|⟨_,hd⟩|⟨_,_,_,ha,_⟩|⟨_,_,_,_,_,_,ha,_⟩|⟨_,_,ha,_⟩|⟨_,_,_,he⟩|⟨_,he⟩|⟨_,_,he⟩|⟨_,_,he⟩
  · simp [cop0,hc] at h
  · rw [hc] at ha;cases ha
  · exact hd c hc
  · rw [hc] at ha;cases ha
  · rw [hc] at ha;cases ha
  · rw [hc] at ha;cases ha
  · obtain⟨c',_,hc',_⟩:=cext_eq he
    rw [hc] at hc';cases hc'
  · obtain⟨_,_,_,hc',_⟩:=cstr_eq he
    rw [hc] at hc';cases hc'
  · obtain⟨_,_,_,_,_,_,hc',_⟩:=csl3_eq he
    rw [hc] at hc';cases hc'
  · obtain⟨_,_,_,_,_,hc',_⟩:=cclr_eq he
    rw [hc] at hc';cases hc'
theorem qgw (sz:Nat):∀ (l:List Nat),l.mapM (fun i=>some (i*sz,sz))=some (l.map fun i=>(i*sz,sz))
  | []=>rfl
  | a :: l=>by simp [List.mapM_cons,qgw sz l]
section
variable {vs:List Value} {v:Value}
theorem xp_mov  (h:qbc (.mov) vs=some v):vs=[v]:=by
  rcases vs with _|⟨u,_|⟨u2,us⟩⟩<;>first|(exfalso;simp [qbc] at h;done)|skip
  simp [qbc] at h;rw [h]
theorem xp_pick  (h:qbc (.pick) vs=some v):∃ b x y,vs=[.bool b,x,y]∧v=if b then x else y:=by
  rcases vs with _|⟨u,_|⟨u2,_|⟨u3,_|⟨u4,us⟩⟩⟩⟩<;>first|(exfalso;simp [qbc] at h;done)|skip
  cases u<;>first|(exfalso;simp [qbc] at h;done)|skip
  simp only [qbc,Option.some.injEq] at h
  exact⟨_,_,_,rfl,h.symm⟩
theorem xp_bin {op:BinOp} {m:Nat} (h:qbc (.bin op m) vs=some v):∃ a b,vs=[a,b]∧xbin op m a b=some v:=by
  rcases vs with _|⟨u,_|⟨u2,_|⟨u3,us⟩⟩⟩<;>first|(exfalso;simp [qbc] at h;done)|skip
  exact⟨_,_,rfl,h⟩
theorem xp_un {op:UnOp} (h:qbc (.un op) vs=some v):∃ a,vs=[a]∧eun op a=some v:=by
  rcases vs with _|⟨u,_|⟨u2,us⟩⟩<;>first|(exfalso;simp [qbc] at h;done)|skip
  exact⟨_,rfl,h⟩
theorem xp_conv {k:IntKind} (h:qbc (.conv k) vs=some v):∃ k' n,vs=[.int k' n]∧v=.int k (k.wrap n):=by
  rcases vs with _|⟨u,_|⟨u2,us⟩⟩<;>first|(exfalso;simp [qbc] at h;done)|skip
  cases u<;>first|(exfalso;simp [qbc] at h;done)|skip
  simp only [qbc,Option.some.injEq] at h
  exact⟨_,_,rfl,h.symm⟩
theorem xp_ext {ix:Nat} (h:qbc (.ext ix) vs=some v):∃ cs:Array Value,vs=[.tuple cs]∧cs[ix]? = some v:=by
  rcases vs with _|⟨u,_|⟨u2,us⟩⟩<;>first|(exfalso;simp [qbc] at h;done)|skip
  cases u<;>first|(exfalso;simp [qbc] at h;done)|skip
  exact⟨_,rfl,by simpa [qbc] using h⟩
theorem xp_fld {off:Nat} (h:qbc (.fld off) vs=some v):∃ a:Addr,vs=[.pointer (some a)]∧v=.pointer (some ⟨a.block,a.off+off,none⟩):=by
  rcases vs with _|⟨u,_|⟨u2,us⟩⟩<;>first|(exfalso;simp [qbc] at h;done)|skip
  cases u<;>first|(exfalso;simp [qbc] at h;done)|skip
  rename_i a;cases a<;>first|(exfalso;simp [qbc] at h;done)|skip
  simp [qbc] at h
  exact⟨_,rfl,h.2.symm⟩
theorem xp_ixA {len sz:Nat} (h:qbc (.ixA len sz) vs=some v):∃ (a:Addr) (k:IntKind) (n:Int),vs=[.pointer (some a),.int k n]∧a.spot=none∧0≤n∧n<len∧v=.pointer (some ⟨a.block,a.off+n.toNat*sz,none⟩):=by
  rcases vs with _|⟨u,_|⟨u2,_|⟨u3,us⟩⟩⟩<;>first|(exfalso;simp [qbc] at h;done)|skip
  cases u<;>first|(exfalso;simp [qbc] at h;done)|skip
  rename_i a;cases a<;>first|(exfalso;simp [qbc] at h;done)|skip
  cases u2<;>first|(exfalso;simp [qbc] at h;done)|skip
  simp [qbc] at h
  exact⟨_,_,_,rfl,h.1.1,h.1.2.1,h.1.2.2,h.2.symm⟩
theorem xp_ixS {sz:Nat} (h:qbc (.ixS sz) vs=some v):∃ (a:Addr) (l c:Nat) (k:IntKind) (n:Int),vs=[.slice (some a) l c,.int k n]∧a.spot=none∧0≤n∧n<l∧v=.pointer (some ⟨a.block,a.off+n.toNat*sz,none⟩):=by
  rcases vs with _|⟨u,_|⟨u2,_|⟨u3,us⟩⟩⟩<;>first|(exfalso;simp [qbc] at h;done)|skip
  cases u<;>first|(exfalso;simp [qbc] at h;done)|skip
  rename_i a _ _;cases a<;>first|(exfalso;simp [qbc] at h;done)|skip
  cases u2<;>first|(exfalso;simp [qbc] at h;done)|skip
  simp [qbc] at h
  exact⟨_,_,_,_,_,rfl,h.1.1,h.1.2.1,h.1.2.2,h.2.symm⟩
theorem xp_lenA {n:Nat} (h:qbc (.lenA n) vs=some v):∃ u,vs=[u]∧v=.int .i64 n:=by
  rcases vs with _|⟨u,_|⟨u2,us⟩⟩<;>first|(exfalso;simp [qbc] at h;done)|skip
  simp only [qbc,Option.some.injEq] at h
  exact⟨_,rfl,h.symm⟩
theorem xp_lenS  (h:qbc (.lenS) vs=some v):∃ a n c,vs=[.slice a n c]∧v=.int .i64 n:=by
  rcases vs with _|⟨u,_|⟨u2,us⟩⟩<;>first|(exfalso;simp [qbc] at h;done)|skip
  cases u<;>first|(exfalso;simp [qbc] at h;done)|skip
  simp only [qbc,Option.some.injEq] at h
  exact⟨_,_,_,rfl,h.symm⟩
theorem xp_lenT  (h:qbc (.lenT) vs=some v):∃ s:ByteArray,vs=[.string s]∧v=.int .i64 s.size:=by
  rcases vs with _|⟨u,_|⟨u2,us⟩⟩<;>first|(exfalso;simp [qbc] at h;done)|skip
  cases u<;>first|(exfalso;simp [qbc] at h;done)|skip
  simp only [qbc,Option.some.injEq] at h
  exact⟨_,rfl,h.symm⟩
theorem xp_min2  (h:qbc (.min2) vs=some v):∃ (k:IntKind) (a b:Int),vs=[.int k a,.int k b]∧v=.int k (if b<a then b else a):=by
  rcases vs with _|⟨u,_|⟨u2,_|⟨u3,us⟩⟩⟩<;>first|(exfalso;simp [qbc] at h;done)|skip
  cases u<;>first|(exfalso;simp [qbc] at h;done)|skip
  cases u2<;>first|(exfalso;simp [qbc] at h;done)|skip
  simp only [qbc] at h
  split at h
  · rename_i e;subst e;cases h;exact⟨_,_,_,rfl,rfl⟩
  · cases h
theorem xp_max2  (h:qbc (.max2) vs=some v):∃ (k:IntKind) (a b:Int),vs=[.int k a,.int k b]∧v=.int k (if a<b then b else a):=by
  rcases vs with _|⟨u,_|⟨u2,_|⟨u3,us⟩⟩⟩<;>first|(exfalso;simp [qbc] at h;done)|skip
  cases u<;>first|(exfalso;simp [qbc] at h;done)|skip
  cases u2<;>first|(exfalso;simp [qbc] at h;done)|skip
  simp only [qbc] at h
  split at h
  · rename_i e;subst e;cases h;exact⟨_,_,_,rfl,rfl⟩
  · cases h
theorem xp_fn {g:FuncId} {nf nc:Nat} (h:qbc (.fn g nf nc) vs=some v):vs.length=nf+nc∧v=.func (.func g) (vs.take nf).toArray (vs.drop nf).toArray:=by
  simp only [qbc] at h
  split at h
  · rename_i e;cases h;exact⟨e,rfl⟩
  · cases h
theorem xp_bld {init:List Value} {pl:List (Nat×Nat)} (h:qbc (.bld init pl) vs=some v):∃ l,qbv init pl vs=some l∧v=.agg l.toArray:=by
  simp only [qbc,Option.map_eq_some_iff] at h
  obtain⟨l,h1,h2⟩:=h
  exact⟨l,h1,h2.symm⟩
theorem xp_prt {sz:Option Nat} {off:Nat} (h:qbc (.prt sz off) vs=some v):∃ cs:Array Value,vs=[.agg cs]∧qdc sz cs.toList off=some v:=by
  rcases vs with _|⟨u,_|⟨u2,us⟩⟩<;>first|(exfalso;simp [qbc] at h;done)|skip
  cases u<;>first|(exfalso;simp [qbc] at h;done)|skip
  exact⟨_,rfl,h⟩
theorem xp_ixV {len es:Nat} {sz:Option Nat} (h:qbc (.ixV len es sz) vs=some v):∃ (cs:Array Value) (k:IntKind) (n:Int),vs=[.agg cs,.int k n]∧0≤n∧n<len∧qdc sz cs.toList (n.toNat*es)=some v:=by
  rcases vs with _|⟨u,_|⟨u2,_|⟨u3,us⟩⟩⟩<;>first|(exfalso;simp [qbc] at h;done)|skip
  cases u<;>first|(exfalso;simp [qbc] at h;done)|skip
  cases u2<;>first|(exfalso;simp [qbc] at h;done)|skip
  simp only [qbc] at h
  split at h
  · rename_i e;exact⟨_,_,_,rfl,e.1,e.2,h⟩
  · cases h
theorem xp_ld {sz:Option Nat}:qbc (.ld sz) vs≠some v:=by simp [qbc]
theorem xp_new {c:List Value} {e:TypeId}:qbc (.new c e) vs≠some v:=by simp [qbc]
theorem xp_box {e:TypeId}:qbc (.box e) vs≠some v:=by simp [qbc]
theorem xp_st {n:Nat}:qbc (.st n) vs≠some v:=by simp [qbc]
theorem xp_make {z:Value} {a b:Nat} {e:TypeId}:qbc (.make z a b e) vs≠some v:=by simp [qbc]
theorem xp_bsl {z:List Value} {a:Nat} {b:List (Nat×Nat)} {e:TypeId}:qbc (.bsl z a b e) vs≠some v:=by simp [qbc]
theorem xp_app {a b:Nat} {e:TypeId}:qbc (.app e a b) vs≠some v:=by simp [qbc]
theorem xp_call:qbc .call vs≠some v:=by simp [qbc]
theorem xp_slA {P:Program} {t e:TypeId} {n sz:Nat} {lo hi:Bool} (ht:arrT P t=some (n,e)) (hs:szT P e=some sz) (h:qbc (.slA n sz lo hi) vs=some v):∃ u us l h,vs=u :: us∧bnds lo hi us=some (l,h)∧qrw P t u l h=some v:=by
  rcases vs with _|⟨u,us⟩<;>first|(exfalso;simp [qbc] at h;done)|skip
  cases u<;>first|(exfalso;simp [qbc] at h;done)|skip
  rename_i a;cases a<;>first|(exfalso;simp [qbc] at h;done)|skip
  simp only [qbc] at h
  split at h
  · rename_i l hh hb
    split at h
    · rename_i hc
      refine⟨_,_,_,_,rfl,hb,?_⟩
      simp only [qrw,ht,hc.1,hs]
      rw [if_pos hc.2]
      exact h
    · cases h
  · cases h
theorem xp_slS {P:Program} {t e:TypeId} {sz:Nat} {lo hi:Bool} (ht:slT P t=some e) (hs:szT P e=some sz) (h:qbc (.slS sz lo hi) vs=some v):∃ u us l h,vs=u :: us∧bnds lo hi us=some (l,h)∧qrw P t u l h=some v:=by
  rcases vs with _|⟨u,us⟩<;>first|(exfalso;simp [qbc] at h;done)|skip
  cases u<;>first|(exfalso;simp [qbc] at h;done)|skip
  rename_i a ln c;cases a with
  | none =>
    rcases ln with _|ln<;>first|(exfalso;simp [qbc] at h;done)|skip
    rcases c with _|c<;>first|(exfalso;simp [qbc] at h;done)|skip
    simp only [qbc] at h
    split at h
    · rename_i l hh hb
      split at h
      · rename_i hc
        refine⟨_,_,_,_,rfl,hb,?_⟩
        simp only [qrw,ht,Option.bind_some,hs,Option.isSome_some,true_and]
        rw [if_pos hc]
        exact h
      · cases h
    · cases h
  | some a =>
    simp only [qbc] at h
    split at h
    · rename_i l hh hb
      split at h
      · rename_i hc
        refine⟨_,_,_,_,rfl,hb,?_⟩
        simp only [qrw,ht,hc.1,hs]
        rw [if_pos hc.2]
        exact h
      · cases h
    · cases h
end
end Go.Sim

namespace Go.Sim
open Go
theorem xpure_sim0 {P:Program} {o:Oper} {x:XO} {vs:List Value} {v:Value} (h:cop0 P o=some x) (hv:qbc x vs=some v) (H:AH):RunSim P o vs H v H:=by
  cases ho:o.op
  case move a =>
    simp only [cop0,ho,Option.some.injEq] at h;subst h
    have:=xp_mov hv;subst this
    exact qqm (.inl ho)
  case assign a =>
    simp only [cop0,ho,Option.some.injEq] at h;subst h
    have:=xp_mov hv;subst this
    exact qqm (.inr ho)
  case pick a b c =>
    simp only [cop0,ho,Option.some.injEq] at h;subst h
    obtain⟨_,_,_,rfl,rfl⟩:=xp_pick hv
    exact runSim_pick ho
  case binOp op t a b t' =>
    simp only [cop0,ho,Option.some.injEq] at h;subst h
    obtain⟨_,_,rfl,h1⟩:=xp_bin hv
    exact runSim_binOp ho (xbin_ebin h1)
  case unOp op t a =>
    simp only [cop0,ho,Option.some.injEq] at h;subst h
    obtain⟨_,rfl,h1⟩:=xp_un hv
    exact runSim_unOp ho h1
  case convert s d a =>
    simp only [cop0,ho] at h
    split at h
    · rename_i hs
      simp only [Option.map_eq_some_iff] at h
      obtain⟨k,h1,rfl⟩:=h
      obtain⟨_,_,rfl,rfl⟩:=xp_conv hv
      exact qkc ho hs h1
    · cases h
  case extract a ix =>
    simp only [cop0,ho,Option.some.injEq] at h;subst h
    obtain⟨_,rfl,h1⟩:=xp_ext hv
    exact runSim_extract ho h1
  case load t a =>
    simp only [cop0,ho,Option.map_eq_some_iff] at h
    obtain⟨k,h1,rfl⟩:=h
    exact absurd hv xp_ld
  case alloc e =>
    simp only [cop0,ho] at h
    split at h
    · split at h
      · cases h;exact absurd hv xp_new
      · cases h
    · cases h
  case box e a =>
    simp only [cop0,ho,Option.some.injEq] at h;subst h
    exact absurd hv xp_box
  case store t a b =>
    simp only [cop0,ho,Option.map_eq_some_iff] at h
    obtain⟨k,h1,rfl⟩:=h
    exact absurd hv xp_st
  case fieldAddr s a f =>
    simp only [cop0,ho,Option.map_eq_some_iff] at h
    obtain⟨⟨off,ft⟩,h1,rfl⟩:=h
    obtain⟨_,rfl,rfl⟩:=xp_fld hv
    exact qn1 ho h1
  case indexAddr t a b =>
    simp only [cop0,ho] at h
    split at h
    · rename_i n e ht
      simp only [Option.map_eq_some_iff] at h
      obtain⟨sz,h1,rfl⟩:=h
      obtain⟨ad,k,i,rfl,q1,q2,q3,rfl⟩:=xp_ixA hv
      refine qg6 ho ?_
      simp only [eindex,ht,q1,h1]
      rw [if_pos ⟨q2,q3⟩]
    · split at h
      · rename_i e ht
        simp only [Option.map_eq_some_iff] at h
        obtain⟨sz,h1,rfl⟩:=h
        obtain⟨ad,l,c,k,i,rfl,q1,q2,q3,rfl⟩:=xp_ixS hv
        refine qg6 ho ?_
        simp only [eindex,ht,q1,h1]
        rw [if_pos ⟨q2,q3⟩]
      · cases h
  case slice t a lo hi mx =>
    cases mx with
    | some m=>simp [cop0,ho] at h
    | none =>
      simp only [cop0,ho] at h
      split at h
      · rename_i n e ht
        simp only [Option.map_eq_some_iff] at h
        obtain⟨sz,h1,rfl⟩:=h
        obtain⟨u,us,l,hh,rfl,q1,q2⟩:=xp_slA ht h1 hv
        exact qmz ho q1 q2
      · split at h
        · rename_i e ht
          simp only [Option.map_eq_some_iff] at h
          obtain⟨sz,h1,rfl⟩:=h
          obtain⟨u,us,l,hh,rfl,q1,q2⟩:=xp_slS ht h1 hv
          exact qmz ho q1 q2
        · cases h
  case makeSlice t a b =>
    simp only [cop0,ho] at h
    repeat (split at h;skip)
    all_goals first|(cases h;exact absurd hv xp_make)|cases h
  case buildSlice t len parts =>
    simp only [cop0,ho] at h
    repeat (split at h;skip)
    all_goals first|(cases h;exact absurd hv xp_bsl)|cases h
  case makeFunc f first cap =>
    cases f with
    | func g =>
      simp only [cop0,ho,Option.some.injEq] at h;subst h
      obtain⟨q1,rfl⟩:=xp_fn hv
      have:=qqn (H:=H) (u:=vs.take first.size) (v:=vs.drop first.size) ho (P:=P) (by simp;omega) (by simp;omega)
      rwa [List.take_append_drop] at this
    | _=>simp [cop0,ho] at h
  case build t parts =>
    simp only [cop0,ho] at h
    split at h
    · rename_i z hz
      split at h
      · rename_i hg
        split at h
        · rename_i fs hu
          split at h
          · rename_i pl hm
            simp only [Option.map_eq_some_iff] at h
            obtain⟨ppl,h1,rfl⟩:=h
            obtain⟨l,q1,rfl⟩:=xp_bld hv
            exact qfp ho hz hg (.inl ⟨fs,pl,hu,hm,rfl⟩) (qhv _ _ _ _ _ h1 q1)
          · cases h
        · rename_i n e hu
          simp only [Option.map_eq_some_iff] at h
          obtain⟨sz,h1,rfl⟩:=h
          obtain⟨l,q1,rfl⟩:=xp_bld hv
          refine qfp ho hz hg (.inr ⟨n,e,sz,hu,h1,rfl⟩) (qhv _ _ _ _ _ ?_ q1)
          rw [qgw,List.map_map]
          rfl
        · cases h
      · cases h
    · cases h
  case field t a f =>
    simp only [cop0,ho] at h
    split at h
    · rename_i fs hu
      split at h
      · rename_i fd hf
        simp only [Option.map_eq_some_iff] at h
        obtain⟨sz,h1,rfl⟩:=h
        obtain⟨cs,rfl,q⟩:=xp_prt hv
        exact qn0 ho hu hf h1 q
      · cases h
    · cases h
  case index t a b =>
    simp only [cop0,ho] at h
    split at h
    · rename_i len e ht
      split at h
      · rename_i es sz h1 h2
        cases h
        obtain⟨cs,k,n,rfl,q1,q2,q3⟩:=xp_ixV hv
        exact qnz ho ht h1 h2 q1 q2 q3
      · cases h
    · cases h
  case call c =>
    simp only [cop0,ho] at h
    split at h
    · cases h;exact absurd hv xp_call
    · rename_i hc
      split at h
      · rename_i x t ha hty
        have hce:=qhs hc ha hty
        rw [hce] at ho
        split at h
        · rename_i hu
          cases h
          obtain⟨s,rfl,rfl⟩:=xp_lenT hv
          exact qk4 ho (by simp [elen,hu])
        · rename_i e hu
          cases h
          obtain⟨s,n,c,rfl,rfl⟩:=xp_lenS hv
          exact qk4 ho (by simp [elen,hu])
        · rename_i n e hu
          cases h
          obtain⟨u,rfl,rfl⟩:=xp_lenA hv
          exact qk4 ho (by simp [elen,hu])
        · cases h
      · cases h
    · rename_i hc
      split at h
      · rename_i x y ha
        have hce:=qhs hc ha rfl
        rw [hce] at ho
        cases h
        obtain⟨k,a,b,rfl,rfl⟩:=xp_min2 hv
        exact runSim_min ho
      · cases h
    · rename_i hc
      split at h
      · rename_i x y ha
        have hce:=qhs hc ha rfl
        rw [hce] at ho
        cases h
        obtain⟨k,a,b,rfl,rfl⟩:=xp_max2 hv
        exact runSim_max ho
      · cases h
    · repeat (split at h;skip)
      all_goals first|(cases h;exact absurd hv xp_app)|cases h
    · cases h
  all_goals simp [cop0,ho] at h
theorem cop_ld0 {P:Program} {o:Oper} {sz:Option Nat} (h:cop0 P o=some (.ld sz)):∃ t a,o.op=.load t a∧qqv P t=some sz:=by
  cases ho:o.op
  case load t a =>
    simp only [cop0,ho,Option.map_eq_some_iff] at h
    obtain⟨k,h1,h2⟩:=h
    cases h2
    exact⟨_,_,rfl,h1⟩
  all_goals exfalso
  all_goals simp only [cop0,ho] at h
  all_goals (repeat' split at h)
  all_goals first|contradiction|(simp at h;done)
theorem xload_sim0 {P:Program} {o:Oper} {sz:Option Nat} {vs:List Value} {v:Value} {H:AH} (h:cop0 P o=some (.ld sz)) (hv:qbh sz H vs=some v):RunSim P o vs H v H:=by
  obtain⟨t,a,ho,hp⟩:=cop_ld0 h
  rcases vs with _|⟨u,_|⟨u2,us⟩⟩
  · simp [qbh] at hv
  · cases u <;> first|(exfalso;simp [qbh] at hv;done)|skip
    rename_i ad
    cases ad with
    | none=>simp [qbh] at hv
    | some ad =>
      refine runSim_load ho ?_
      simp only [qbh] at hv
      split at hv
      · rename_i c e op ro h1 h2
        simp only [eload,h1,h2]
        unfold qqv at hp
        split at hp
        · cases hp
        · rename_i hn
          rw [if_neg hn]
          split at hp
          · rename_i hag
            rw [if_pos hag]
            simp only [Option.map_eq_some_iff] at hp
            obtain⟨n,h3,rfl⟩:=hp
            simp only [h3]
            exact hv
          · rename_i hag
            cases hp
            rw [if_neg hag]
            exact hv
      · cases hv
  · simp [qbh] at hv
theorem xnew_sim0 {P:Program} {o:Oper} {x:XO} {vs c:List Value} {e:TypeId} {mk:Nat→Value} (h:cop0 P o=some x) (hv:xnew x vs=some (c,e,mk)):NewSim P o vs c e mk:=by
  cases ho:o.op
  case alloc t =>
    simp only [cop0,ho] at h
    split at h
    · rename_i z hz
      split at h
      · rename_i hg
        cases h
        cases vs with
        | nil =>
          simp [xnew] at hv
          obtain⟨rfl,rfl,rfl⟩:=hv
          rw [qhr]
          exact newSim_alloc ho hz hg
        | cons _ _=>simp [xnew] at hv
      · cases h
    · cases h
  case box t a =>
    simp only [cop0,ho,Option.some.injEq] at h;subst h
    rcases vs with _|⟨u,_|⟨u2,us⟩⟩<;>simp [xnew] at hv
    obtain⟨rfl,rfl,rfl⟩:=hv
    rw [qhr]
    exact newSim_box ho
  case makeSlice t a b =>
    simp only [cop0,ho] at h
    split at h
    · rename_i el hs
      split at h
      · rename_i ti hti
        split at h
        · rename_i z hz
          split at h
          · rename_i hc
            cases h
            rcases vs with _|⟨u,_|⟨u2,_|⟨u3,us⟩⟩⟩<;>first|(exfalso;simp [xnew] at hv;done)|skip
            cases u<;>first|(exfalso;simp [xnew] at hv;done)|skip
            cases u2<;>first|(exfalso;simp [xnew] at hv;done)|skip
            simp only [xnew] at hv
            split at hv
            · rename_i hb
              cases hv
              refine qn2 ho ?_
              simp only [emake,hs,hti,hz]
              rw [if_pos ⟨hb.1,hb.2.1,hb.2.2.1,hb.2.2.2,hc.1,hc.2⟩]
            · cases hv
          · cases h
        · cases h
      · cases h
    · cases h
  case buildSlice t len parts =>
    simp only [cop0,ho] at h
    split at h
    · rename_i el hs
      split at h
      · rename_i sz z hsz hz
        split at h
        · rename_i hc
          cases h
          simp only [xnew] at hv
          split at hv
          · rename_i l hl
            cases hv
            refine qmb ho ?_
            simp only [qjv,hs,hsz,hz]
            rw [if_pos hc]
            have:=qhv (place:=fun i=>some (i*sz,sz)) (parts.toList.map (·.1)) vs _ _ _ (qgw sz _) (by rw [List.map_map];exact hl)
            unfold eparts
            rw [this]
          · cases hv
        · cases h
      · cases h
    · cases h
  all_goals exfalso
  all_goals simp only [cop0,ho] at h
  all_goals (repeat' split at h)
  all_goals first|contradiction|(cases h;done)|(simp only [Option.some.injEq] at h;subst h;simp [xnew] at hv;done)|(simp only [Option.map_eq_some_iff] at h;obtain⟨_,_,rfl⟩:=h;simp [xnew] at hv;done)
theorem xact_sim0 {P:Program} {o:Oper} {x:XO} {vs:List Value} {v:Value} {H H':AH} (h:cop0 P o=some x) (hv:xact x H vs=some (v,H')):RunSim P o vs H v H':=by
  cases ho:o.op
  case store t a b =>
    simp only [cop0,ho,Option.map_eq_some_iff] at h
    obtain⟨n,hn,rfl⟩:=h
    rcases vs with _|⟨u,_|⟨u2,_|⟨u3,us⟩⟩⟩<;>first|(exfalso;simp [xact] at hv;done)|skip
    cases u<;>first|(exfalso;simp [xact] at hv;done)|skip
    rename_i ad
    cases ad<;>first|(exfalso;simp [xact] at hv;done)|skip
    simp only [xact] at hv
    split at hv
    · rename_i c e op h1 h2
      split at hv
      · rename_i hc
        obtain⟨c1,c2,c3⟩:=hc
        cases hv
        refine runSim_store ho ?_
        rw [qhr] at c1 c2
        simp only [estore,h1,h2]
        have c1':u2.cells.size=n:=by simpa using c1
        rw [if_pos ⟨by rw [hn,c1'],c2,by omega⟩]
        congr 2
        rw [qhr,putL_eq (by rw [c1];exact c3)]
      · cases hv
    · cases hv
  case call c =>
    simp only [cop0,ho] at h
    split at h
    · cases h;simp [xact] at hv
    · repeat' split at h
      all_goals first|(cases h;done)|(cases h;simp [xact] at hv;done)
    · repeat' split at h
      all_goals first|(cases h;done)|(cases h;simp [xact] at hv;done)
    · repeat' split at h
      all_goals first|(cases h;done)|(cases h;simp [xact] at hv;done)
    · rename_i hc
      split at h
      · rename_i x y t t' ha hty
        have hce:=qhs hc ha hty
        rw [hce] at ho
        split at h
        · rename_i e e2 hs hs2
          split at h
          · rename_i ti hti
            split at h
            · rename_i z hz
              split at h
              · rename_i hcz
                cases h
                rcases vs with _|⟨u,_|⟨u2,_|⟨u3,us⟩⟩⟩<;>first|(exfalso;simp [xact] at hv;done)|skip
                refine runSim_append ho ?_
                simp only [xact] at hv
                simp only [eappend,hs,hs2,hti,hz]
                split at hv
                · rename_i new hnew
                  split at hv
                  · rename_i hc1
                    simp only [hnew]
                    rw [if_pos ⟨hc1.1,hc1.2.1,hcz.1,hcz.2,hc1.2.2⟩]
                    split at hv
                    · exact hv
                    · split at hv
                      · rename_i h1 h2
                        simp only [h1,h2]
                        split at hv
                        · rename_i hle
                          rw [if_pos hle]
                          split at hv
                          · rename_i h0
                            rw [if_pos h0]
                            exact hv
                          · rename_i h0
                            rw [if_neg h0]
                            split at hv
                            · rename_i hr
                              rw [if_pos hr]
                              rw [putL_eq hr.2] at hv
                              exact hv
                            · cases hv
                        · rename_i hle
                          rw [if_neg hle]
                          exact hv
                      · cases hv
                    · cases hv
                  · cases hv
                · cases hv
              · cases h
            · cases h
          · cases h
        · cases h
      · cases h
    · cases h
  all_goals exfalso
  all_goals simp only [cop0,ho] at h
  all_goals (repeat' split at h)
  all_goals first|contradiction|(cases h;done)|(simp only [Option.some.injEq] at h;subst h;simp [xact] at hv;done)|(simp only [Option.map_eq_some_iff] at h;obtain⟨_,_,rfl⟩:=h;simp [xact] at hv;done)
theorem qqk {P:Program} {x:Operand} {o:Oper} (ho:o.op=.nilCheck x) {a:Addr} {H:AH}:RunSim P o [.pointer (some a)] H (.pointer (some a)) H:=by
  refine RunSim.pure_ fun i vs' hv ρ hρ=>?_
  obtain⟨u',rfl,hu⟩:=hv.one
  rw [ho] at hρ
  simp [Op.operands] at hρ
  refine⟨u',hu,fun w=>?_⟩
  cases hu
  unfold execOp
  rw [ho]
  simp [hρ]
theorem runSim_copy {P:Program} {o:Oper} {x y:Operand} {t t' e:TypeId} {sz:Nat} (ho:o.op=.call { callee:=.builtin .copy,args:=#[x,y],argTypes:=#[t,t'] }) (ht:slT P t=some e) (hs:szT P e=some sz)
    {a:Addr} {l c:Nat} {u:Value} {cc new:List Value} {ee:TypeId} {opn:Option Nat} {H:AH} (hH:H[a.block]? = some (.cells cc ee opn false)) (hsp:a.spot=none) (hnew:erow H u (Nat.min (slen u) l*sz)=some new) (h1:new.all one=true) (hfit:a.off+new.length≤cc.length) :
    RunSim P o [.slice (some a) l c,u] H (.int .i64 (Nat.min (slen u) l:Nat)) (H.set a.block (.cells (qcq cc a.off new) ee opn false)):=by
  intro i w vs' hr hvs ρ hρ
  obtain⟨s',u',rfl,hs',hu⟩:=hvs.two
  have hρ2:ρ x=s'∧ρ y=u':=by rw [ho] at hρ;simpa [Op.operands,Call.operands] using hρ
  obtain⟨hx,hy⟩:=hρ2
  clear hρ
  have hut:P.underlying t=some (.slice e):=by
    unfold slT at ht
    split at ht
    · rename_i e' hu';cases ht;exact hu'
    · cases ht
  cases hs' with
  | vague hsv=>rw [hsp] at hsv;cases hsv
  | slice hb hspp hcc =>
    rename_i L c'
    obtain⟨⟨p,q,r,rfl⟩,hlen⟩:=qqg hu (erow_slice hnew)
    obtain⟨new',n1,n2,n3,n4⟩:=erow_sim (P:=P) (size:=sz) hr hu rfl hnew
    have hfw:=n4 w (fun _ _ h=>h)
    obtain⟨w',b0,hst,hrel,hext⟩:=qdz (P:=P) hr hb hH n1 h1 hfit
    refine⟨i,w',_,hext,hrel,.int _ _,.inl ?_⟩
    have e0:Array.map ρ #[x,y] = #[ρ x,ρ y]:=by simp
    rw [qb6 ho,e0,hx,hy]
    have hq:q=slen u:=hlen
    subst hq
    simp [builtin,Builtin.copy_,qbj P hut,qbw P hs,Builtin.lenOf,hfw,b0,hst,goInt]
set_option maxHeartbeats 1000000 in
theorem xpure_sim {P:Program} {o:Oper} {x:XO} {vs:List Value} {v:Value} (h:cop P o=some x) (hv:qbc x vs=some v) (H:AH):RunSim P o vs H v H:=by
  rcases qgr h with h|⟨rfl,a,ha⟩|⟨rfl,_⟩|⟨sz,c,rfl,_⟩|⟨_,_,_,_,_,rfl,_⟩|⟨c,rfl,hc,hcap⟩|⟨b,g,rfl,he⟩|⟨rfl,he⟩|⟨sz,rfl,he⟩|⟨z,rfl,he⟩
  · exact xpure_sim0 h hv H
  · rcases vs with _|⟨u,_|⟨u2,us⟩⟩<;>first|(exfalso;simp [qbc] at hv;done)|skip
    cases u<;>first|(exfalso;simp [qbc] at hv;done)|skip
    rename_i ad;cases ad<;>first|(exfalso;simp [qbc] at hv;done)|skip
    simp only [qbc,Option.some.injEq] at hv
    subst hv
    exact qqk ha
  · simp [qbc] at hv
  · simp [qbc] at hv
  · simp [qbc] at hv
  · obtain⟨x,t,e,rfl,ht⟩:=ccap_eq hcap
    rcases vs with _|⟨u,_|⟨u2,us⟩⟩<;>first|(exfalso;simp [qbc] at hv;done)|skip
    simp only [qbc] at hv
    split at hv<;>first|(cases hv;done)|skip
    all_goals first|(rename_i heq1 heq2;simp only [List.cons.injEq,and_true] at heq2;subst heq2;cases hv;exact runSim_capNil hc ht)|(simp_all;done)
  · obtain⟨c,fn,hc,hcal,hf,hb,hn,hname⟩:=cext_eq he
    rcases vs with _|⟨u,_|⟨u1,_|⟨u2,_|⟨u3,_|⟨u4,us⟩⟩⟩⟩⟩<;>first|(exfalso;simp [qbc] at hv;done)|skip
    cases u<;>first|(exfalso;simp [qbc] at hv;done)|skip
    rename_i fg f cp
    cases fg<;>first|(exfalso;simp [qbc] at hv;done)|skip
    cases u1<;>first|(exfalso;simp [qbc] at hv;done)|skip
    rename_i k1 x
    cases u2<;>first|(exfalso;simp [qbc] at hv;done)|skip
    rename_i k2 y
    cases u3<;>first|(exfalso;simp [qbc] at hv;done)|skip
    rename_i k3 z
    cases k1<;>first|(exfalso;simp [qbc] at hv;done)|skip
    cases k2<;>first|(exfalso;simp [qbc] at hv;done)|skip
    cases k3<;>first|(exfalso;simp [qbc] at hv;done)|skip
    simp only [qbc] at hv
    split at hv
    · rename_i hh
      obtain⟨rfl,hf0,hc0,h1,h2,h3,h4,h5⟩:=hh
      cases hv
      have e1:f = #[]:=Array.eq_empty_of_size_eq_zero hf0
      have e2:cp = #[]:=Array.eq_empty_of_size_eq_zero hc0
      subst e1 e2
      exact runSim_ext3 hc hcal hf hb hn hname h1 h2 h3 h4 h5
    · cases hv
  · obtain⟨t,x,y,ho,ht⟩:=cstr_eq he
    rcases vs with _|⟨u,_|⟨u1,_|⟨u2,us⟩⟩⟩<;>first|(exfalso;simp [qbc] at hv;done)|skip
    cases u<;>first|(exfalso;simp [qbc] at hv;done)|skip
    rename_i st
    cases u1<;>first|(exfalso;simp [qbc] at hv;done)|skip
    rename_i k n
    simp only [qbc] at hv
    split at hv
    · rename_i h0
      cases hb:st[n.toNat]? with
      | none=>rw [hb] at hv;cases hv
      | some b=>rw [hb] at hv;cases hv;exact qnx ho ht h0 hb
    · cases hv
  · obtain⟨t,e,x,lo,hi,mx,ho,ht,hs⟩:=csl3_eq he
    rcases vs with _|⟨u,_|⟨u1,_|⟨u2,_|⟨u3,_|⟨u4,us⟩⟩⟩⟩⟩<;>first|(exfalso;simp [qbc] at hv;done)|skip
    cases u<;>first|(exfalso;simp [qbc] at hv;done)|skip
    rename_i ad n c
    cases ad<;>first|(exfalso;simp [qbc] at hv;done)|skip
    cases u1<;>first|(exfalso;simp [qbc] at hv;done)|skip
    cases u2<;>first|(exfalso;simp [qbc] at hv;done)|skip
    cases u3<;>first|(exfalso;simp [qbc] at hv;done)|skip
    simp only [qbc] at hv
    split at hv
    · rename_i hsp
      split at hv
      · rename_i hh
        cases hv
        exact runSim_slice3 ho ht hs hsp hh.1 hh.2.1 hh.2.2.1 hh.2.2.2.1 hh.2.2.2.2
      · cases hv
    · cases hv
  · simp [qbc] at hv
theorem qj0 {P:Program} {o:Oper} {sz:Option Nat} {vs:List Value} {v:Value} {H:AH} (h:cop P o=some (.ld sz)) (hv:qbh sz H vs=some v):RunSim P o vs H v H:=by
  rcases qgr h with h|⟨h,_⟩|⟨h,_⟩|⟨_,_,h,_⟩|⟨_,_,_,_,_,h,_⟩|⟨_,h,_⟩|⟨_,_,h,_⟩|⟨h,_⟩|⟨_,h,_⟩|⟨_,h,_⟩
  · exact xload_sim0 h hv
  · cases h
  · cases h
  · cases h
  · cases h
  · cases h
  · cases h
  · cases h
  · cases h
  · cases h
theorem xnew_sim {P:Program} {o:Oper} {x:XO} {vs c:List Value} {e:TypeId} {mk:Nat→Value} (h:cop P o=some x) (hv:xnew x vs=some (c,e,mk)):NewSim P o vs c e mk:=by
  rcases qgr h with h|⟨rfl,_⟩|⟨rfl,_⟩|⟨_,_,rfl,_⟩|⟨_,_,_,_,_,rfl,_⟩|⟨_,rfl,_⟩|⟨_,_,rfl,_⟩|⟨rfl,_⟩|⟨_,rfl,_⟩|⟨_,rfl,_⟩
  · exact xnew_sim0 h hv
  · simp [xnew] at hv
  · simp [xnew] at hv
  · simp [xnew] at hv
  · simp [xnew] at hv
  · simp [xnew] at hv
  · simp [xnew] at hv
  · simp [xnew] at hv
  · simp [xnew] at hv
  · simp [xnew] at hv
theorem xact_sim {P:Program} {o:Oper} {x:XO} {vs:List Value} {v:Value} {H H':AH} (h:cop P o=some x) (hv:xact x H vs=some (v,H')):RunSim P o vs H v H':=by
  rcases qgr h with h|⟨rfl,_⟩|⟨rfl,_⟩|⟨sz,c,rfl,hc,hz⟩|⟨zl,sz,b,e,c,rfl,hc,hg⟩|⟨_,rfl,_⟩|⟨_,_,rfl,_⟩|⟨rfl,_⟩|⟨_,rfl,_⟩|⟨zl,rfl,he⟩
  · exact xact_sim0 h hv
  · simp [xact] at hv
  · simp [xact] at hv
  · obtain⟨x,y,t,t',e,rfl,ht,hs⟩:=ccopy_eq hz
    rcases vs with _|⟨u,_|⟨u2,_|⟨u3,us⟩⟩⟩<;>first|(exfalso;simp [xact] at hv;done)|skip
    cases u<;>first|(exfalso;simp [xact] at hv;done)|skip
    rename_i ad l cp
    cases ad<;>first|(exfalso;simp [xact] at hv;done)|skip
    simp only [xact] at hv
    split at hv
    · rename_i cc ee opn hH hsp
      split at hv
      · rename_i new hnew
        split at hv
        · rename_i hc1
          cases hv
          exact runSim_copy hc ht hs hH hsp hnew hc1.1 hc1.2
        · cases hv
      · cases hv
    · cases hv
  · obtain⟨x,y,t,t',k,ti,z,rfl,ht,ht',hi,hz,hsc,hsz,hpos,rfl,rfl,rfl⟩:=cgrow_eq hg
    unfold xact at hv
    split at hv
    · rename_i h1;cases h1
    · rename_i h1;cases h1
    · rename_i h1;cases h1
    · rename_i h1;cases h1
    · rename_i h1
      cases h1
      split at hv
      · rename_i hcond
        cases hv
        have:=runSim_apz hc ht ht' hi hz hsc hsz hpos hcond.1 hcond.2.1 hcond.2.2 (H:=H)
        simpa using this
      · cases hv
    · cases hv
  · simp [xact] at hv
  · simp [xact] at hv
  · simp [xact] at hv
  · simp [xact] at hv
  · obtain⟨x,t,e,ti,z,ho,hu,hi,hz,hsc,rfl⟩:=cclr_eq he
    rcases vs with _|⟨u,_|⟨u2,us⟩⟩<;>first|(exfalso;simp [xact] at hv;done)|skip
    cases u<;>first|(exfalso;simp [xact] at hv;done)|skip
    rename_i ad l cp
    cases ad<;>first|(exfalso;simp [xact] at hv;done)|skip
    simp only [xact] at hv
    split at hv
    · rename_i cc ee opn hH hsp
      split at hv
      · rename_i hc1
        cases hv
        exact runSim_clear ho hu hi hz hsc hH hsp hc1.1 hc1.2.1 hc1.2.2
      · cases hv
    · cases hv
end Go.Sim
