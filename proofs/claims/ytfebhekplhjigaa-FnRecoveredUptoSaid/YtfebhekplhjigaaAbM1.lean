/- Part of a proof: the functions that the law reaches, walked by the abstract logic of the texts Ab. -/
import GoSem.Dispatch
import Derived.Tactics
import Derived.Below
import Derived.Laws.AppendOwn
import Derived.Laws.OwnMore
import Derived.Laws.MakeOwn
import Derived.Laws.Tables
import Derived.Laws.Cells
import Derived.Laws.IdiomStrings
import Derived.MapKept
import Derived.LaidEql
open Nat(le_refl le_trans lt_of_lt_of_le add_zero min_eq_left add_mul mul_le_mul_right add_assoc zero_add le_succ)
open Option(bind_eq_bind bind_eq_some_iff pure_def map_eq_some_iff map_some)
open List(append_nil ext_getElem? getElem?_take getElem?_set_ne getElem?_append_left getElem?_set_self getElem?_append_right length_take getElem?_eq_none getElem?_drop mapM_cons mem_of_getElem? append_assoc getElem?_toArray size_toArray length_append length_drop)
set_option linter.unusedVariables false
set_option linter.unusedSimpArgs false
namespace Go.Ab
def oC:List (Nat×Nat×Value):=[]
def lK:List (Nat×Nat):=[]
def ad2(_:Nat)(_:Value):Bool:=true
end Go.Ab
namespace Go.Ab
abbrev dv:=Nat->Nat->Option Value
inductive AV where
 |top
 |v (x:Value)
 |aw
 |sl (xs:List AV)
 |ct (x:AV) (f:Nat)
 |row (n len:Nat)
 |ptr (n len i f:Nat)
 |fn (f:FuncId) (a6:List AV)
 |agg (cs:List AV)
 |ba (vs:List AV)
 |own (n:Nat)
 |uU
instance:Inhabited AV:=⟨.top⟩
def AV.cells:AV->List AV
 | .agg cs=>cs
 |x=>[x]
def AV.isAgg:AV->Bool
 | .agg _=>true
 |_=>false
def AV.cg:AV->Bool
 | .agg _| .ba _| .top=>false
 |_=>true
inductive gr where
 |mp (es:List (AV×AV))
 |it (s:ByteArray) (pos:Nat)
def gr.lY:gr->Bool
 | .mp _=>true
 | .it _ _=>false
def gr.val(g:gr)(b:Nat):Value:=if g.lY=true then .map (some b)else .pointer (some ⟨b,0,none⟩)
theorem gr.val_one(g:gr)(b:Nat):(g.val b).oneCell'=true:=by cases g<;>rfl
inductive ae where
 |dead
 |nil (e s:Nat)
 |live (e s:Nat) (xs:List AV)
 |own (a:AV)
 |dc (g:gr)
instance:Inhabited ae:=⟨.dead⟩
structure Loc where
 bh:Nat
 cap:Nat
 val:Value
 mem:dv
abbrev Loc.at(b c:Nat):Loc:=⟨b,c,.slice none 0 0,λ _ _=>none⟩
@[simp] theorem Loc.aAY (b c:Nat):(Loc.at b c).bh=b:=rfl
@[simp] theorem Loc.aAX (b c:Nat):(Loc.at b c).cap=c:=rfl
inductive R(I:dv)(L:Nat->Loc)(O:List ae):AV->Value->Prop
 |top (x:Value):R I L O .top x
 |v (x:Value):x.oneCell'=true->R I L O (.v x) x
 |aw:R I L O .aw (.slice none 0 0)
 |lG (a:Option Addr) (cap:Nat):R I L O (.sl []) (.slice a 0 cap)
 |sl (xs:List AV) (bh off cap s:Nat) (bA:Nat->Nat->Value):xs.length<=cap->xs≠[]->
  (∀(i:Nat) (x:AV),xs[i]? =some x->x.cells.length=s)->
  (∀(i:Nat) (x:AV) (j:Nat) (c:AV),xs[i]? =some x->x.cells[j]? =some c->I bh (off+i*s+j)=some (bA i j)/\(bA i j).oneCell'=true)->
  (∀(i:Nat) (x:AV) (j:Nat) (c:AV),xs[i]? =some x->x.cells[j]? =some c->R I L O c (bA i j))->
  R I L O (.sl xs) (.slice (some ⟨bh,off,none⟩) xs.length cap)
 |ct (x:AV) (f bh base:Nat) (bA:Nat->Value):
  (∀(j:Nat) (c:AV),x.cells[j]? =some c->I bh (base+j)=some (bA j)/\(bA j).oneCell'=true)->
  (∀(j:Nat) (c:AV),x.cells[j]? =some c->R I L O c (bA j))->
  R I L O (.ct x f) (.pointer (some ⟨bh,base+f,none⟩))
 |cq (n len e s:Nat) (xs:List AV):O[n]? =some (.live e s xs)->xs.length=len->
  R I L O (.row n len) (.slice (some ⟨(L n).bh,0,none⟩) len (L n).cap)
 |fY (n e s:Nat):O[n]? =some (.nil e s)->R I L O (.row n 0) (.slice none 0 0)
 |eP (n len:Nat) (x:Value):n<O.length->(∀e s,O[n]? ≠some (.nil e s))->(∀e s xs,O[n]? =some (.live e s xs)->len<xs.length)->x.oneCell'=true->
  R I L O (.row n len) x
 |dU (n len i f e s:Nat) (xs:List AV):O[n]? =some (.live e s xs)->xs.length=len->
  R I L O (.ptr n len i f) (.pointer (some ⟨(L n).bh,i*s+f,none⟩))
 |fZ (n len i f:Nat) (x:Value):n<O.length->(∀e s,O[n]? ≠some (.nil e s))->(∀e s xs,O[n]? =some (.live e s xs)->len<xs.length)->x.oneCell'=true->
  R I L O (.ptr n len i f) x
 |fn (f:FuncId) (a6:List AV) (vs:Array Value):a6.length=vs.size->
  (∀(i:Nat) (c:AV) (x:Value),a6[i]? =some c->vs[i]? =some x->R I L O c x)->R I L O (.fn f a6) (.func (.func f) #[] vs)
 |agg (cs:List AV) (vs:Array Value):cs.length=vs.size->
  (∀(i:Nat) (c:AV) (x:Value),cs[i]? =some c->vs[i]? =some x->R I L O c x)->R I L O (.agg cs) (.agg vs)
 |ba (cs:List AV) (vs:Array Value):cs.length=vs.size->
  (∀(i:Nat) (c:AV) (x:Value),cs[i]? =some c->vs[i]? =some x->R I L O c x)->R I L O (.ba cs) (.tuple vs)
 |dV (n:Nat) (a:AV):O[n]? =some (.own a)->(L n).val.oneCell'=true->R I L O (.own n) (L n).val
 |gF (n:Nat) (g:gr):O[n]? =some (.dc g)->R I L O (.own n) (g.val (L n).bh)
 |eQ (n:Nat) (x:Value):n<O.length->(∀a,O[n]? ≠some (.own a))->(∀g,O[n]? ≠some (.dc g))->x.oneCell'=true->R I L O (.own n) x
 |uU (t:TypeId) (x:Value):R I L O .uU (.iface t x)
structure Ext(I:dv)(L:Nat->Loc)(O:List ae)(I':dv)(L':Nat->Loc)(O':List ae):Prop where
 j4:∀b o x,I b o=some x->I' b o=some x
 len:O.length<=O'.length
 obj:∀n,n<O.length->∀e s xs,O'[n]? =some (.live e s xs)->(∃ys,O[n]? =some (.live e s ys)/\ys.length<=xs.length/\(ys.length=xs.length->L' n=L n))∨(O[n]? =some (.nil e s)/\xs≠[])
 nil:∀n,n<O.length->∀e s,O'[n]? =some (.nil e s)->O[n]? =some (.nil e s)
 own:∀n,n<O.length->∀a,O'[n]? =some (.own a)->(∃b,O[n]? =some (.own b))/\(L' n).val=(L n).val
 dc:∀n,n<O.length->∀g,O'[n]? =some (.dc g)->(∃h,O[n]? =some (.dc h)/\h.lY=g.lY)/\(L' n).bh=(L n).bh
theorem Ext.refl(I:dv)(L:Nat->Loc)(O:List ae):Ext I L O I L O:=
 ⟨λ _ _ _ h=>h,le_refl _,λ _ _ _ _ xs h=> .inl ⟨xs,h,le_refl _,λ _=>rfl⟩,λ _ _ _ _ h=>h,λ _ _ a h=>⟨⟨a,h⟩,rfl⟩,λ _ _ g h=>⟨⟨g,h,rfl⟩,rfl⟩⟩
theorem Ext.trans{I I' I'':dv}{L L' L'':Nat->Loc}{O O' oY:List ae}(h:Ext I L O I' L' O')(k:Ext I' L' O' I'' L'' oY):Ext I L O I'' L'' oY:=by
 refine⟨λ b o x hx=>k.j4 _ _ _ (h.j4 _ _ _ hx),le_trans h.len k.len,λ n hn e s xs hx=> ?_,λ n hn e s hx=>h.nil n hn e s (k.nil n (lt_of_lt_of_le hn h.len) e s hx),λ n hn a hx=> ?_,λ n hn g hx=> ?_⟩;rotate_left
 ·obtain⟨⟨b,hb⟩,h1⟩:=k.own n (lt_of_lt_of_le hn h.len) a hx;obtain⟨hc,h2⟩:=h.own n hn b hb;exact⟨hc,h1.trans h2⟩
 ·obtain⟨⟨b,hb,hk⟩,h1⟩:=k.dc n (lt_of_lt_of_le hn h.len) g hx;obtain⟨⟨c,hc,hm⟩,h2⟩:=h.dc n hn b hb;exact⟨⟨c,hc,hm.trans hk⟩,h1.trans h2⟩
 rcases k.obj n (lt_of_lt_of_le hn h.len) e s xs hx with⟨ys,hy,hle,hL⟩|⟨hy,bB⟩
 ·rcases h.obj n hn e s ys hy with⟨zs,hz,atf,hL'⟩|⟨hz,bB⟩
  ·exact .inl ⟨zs,hz,le_trans atf hle,λ he=>(hL (by omega)).trans (hL' (by omega))⟩
  ·refine .inr ⟨hz,λ h0=>bB ?_⟩;subst h0;exact List.eq_nil_of_length_eq_zero (by simpa using hle)
 ·exact .inr ⟨h.nil n hn e s hy,bB⟩
theorem Ext.aqu{I I':dv}{L L':Nat->Loc}{O O':List ae}(h:Ext I L O I' L' O'){n len:Nat}(hn:n<O.length)(wj:∀e s,O[n]? ≠some (.nil e s))(hs:∀e s xs,O[n]? =some (.live e s xs)->len<xs.length):
  n<O'.length/\(∀e s,O'[n]? ≠some (.nil e s))/\∀e s xs,O'[n]? =some (.live e s xs)->len<xs.length:=by
 refine⟨lt_of_lt_of_le hn h.len,λ e s he=>wj e s (h.nil n hn e s he),λ e s xs hx=> ?_⟩;rcases h.obj n hn e s xs hx with⟨ys,hy,hle,_⟩|⟨hy,_⟩
 ·exact lt_of_lt_of_le (hs e s ys hy) hle
 ·exact(wj e s hy).elim
theorem Ext.live{I I':dv}{L L':Nat->Loc}{O O':List ae}(h:Ext I L O I' L' O'){n len e s:Nat}{xs:List AV}(hn:O[n]? =some (.live e s xs))(hl:xs.length=len):
  (∃ys,O'[n]? =some (.live e s ys)/\ys.length=len/\L' n=L n)∨(n<O'.length/\(∀e s,O'[n]? ≠some (.nil e s))/\∀e s xs,O'[n]? =some (.live e s xs)->len<xs.length):=by
 have aF:n<O.length:=(List.getElem?_eq_some_iff.1 hn).1;have vP:∀e s,O'[n]? ≠some (.nil e s):=λ e s he=>by have:=h.nil n aF e s he;rw[hn]at this;cases this
 by_cases hd:∃e' s' gZ,O'[n]? =some (.live e' s' gZ)
 ·obtain⟨e',s',gZ,hx⟩:=hd;rcases h.obj n aF e' s' gZ hx with⟨ys,hy,hle,hL⟩|⟨hy,_⟩
  ·rw[hn]at hy;cases hy;by_cases he:xs.length=gZ.length
   ·exact .inl ⟨gZ,hx,by omega,hL he⟩
   ·exact .inr ⟨lt_of_lt_of_le aF h.len,vP,λ e'' s'' au5 hx'=>by rw[hx]at hx';cases hx';omega⟩
  ·rw[hn]at hy;cases hy
 ·exact .inr ⟨lt_of_lt_of_le aF h.len,vP,λ e'' s'' au5 hx'=>(hd ⟨_,_,_,hx'⟩).elim⟩
theorem R.mono{I I':dv}{L L':Nat->Loc}{O O':List ae}(h:Ext I L O I' L' O'){a:AV}{x:Value}(hr:R I L O a x):R I' L' O' a x:=by
 induction hr with
 |top x=>exact .top x
 |v x hx=>exact .v x hx
 |aw=>exact .aw
 |uU t x=>exact .uU t x
 |lG a cap=>exact .lG a cap
 |sl xs bh off cap s bA h1 h2 h3 h4 _ ih=>exact .sl xs bh off cap s bA h1 h2 h3 (λ i x j c hi hj=>⟨h.j4 _ _ _ (h4 i x j c hi hj).1,(h4 i x j c hi hj).2⟩) ih
 |ct x f bh base bA h1 _ ih=>exact .ct x f bh base bA (λ j c hj=>⟨h.j4 _ _ _ (h1 j c hj).1,(h1 j c hj).2⟩) ih
 |cq n len e s xs hn hl=>
  rcases h.live hn hl with⟨ys,h1,h2,h3⟩|⟨h1,h2,h3⟩
  ·rw[←h3];exact .cq n len e s ys h1 h2
  ·exact .eP n len _ h1 h2 h3 rfl
 |fY n e s hn=>
  have aF:n<O.length:=(List.getElem?_eq_some_iff.1 hn).1;by_cases hd:∃e' s',O'[n]? =some (.nil e' s')
  ·obtain⟨e',s',hx⟩:=hd;exact .fY n e' s' hx
  ·refine .eP n 0 _ (lt_of_lt_of_le aF h.len) (λ e' s' he=>hd ⟨e',s',he⟩) (λ e' s' xs hx=> ?_) rfl;rcases h.obj n aF e' s' xs hx with⟨ys,hy,_⟩|⟨_,bB⟩
   ·rw[hn]at hy;cases hy
   ·exact List.length_pos_iff.2 bB
 |eP n len x hn wj hs hx=>
  obtain⟨h1,h2,h3⟩:=h.aqu hn wj hs;exact .eP n len x h1 h2 h3 hx
 |dU n len i f e s xs hn hl=>
  rcases h.live hn hl with⟨ys,h1,h2,h3⟩|⟨h1,h2,h3⟩
  ·rw[←h3];exact .dU n len i f e s ys h1 h2
  ·exact .fZ n len i f _ h1 h2 h3 rfl
 |fZ n len i f x hn wj hs hx=>
  obtain⟨h1,h2,h3⟩:=h.aqu hn wj hs;exact .fZ n len i f x h1 h2 h3 hx
 |fn f a6 vs h1 _ ih=>exact .fn f a6 vs h1 ih
 |agg cs vs h1 _ ih=>exact .agg cs vs h1 ih
 |ba cs vs h1 _ ih=>exact .ba cs vs h1 ih
 |dV n a hn h1=>
  have aF:n<O.length:=(List.getElem?_eq_some_iff.1 hn).1;by_cases hd:∃b,O'[n]? =some (.own b)
  ·obtain⟨b,hb⟩:=hd;rw[←(h.own n aF b hb).2]at h1⊢;exact .dV n b hb h1
  ·refine .eQ n _ (lt_of_lt_of_le aF h.len) (λ b hb=>hd ⟨b,hb⟩) (λ g hg=> ?_) h1;obtain⟨⟨c,hc,_⟩,_⟩:=h.dc n aF g hg;rw[hn]at hc;cases hc
 |gF n g hn=>
  have aF:n<O.length:=(List.getElem?_eq_some_iff.1 hn).1;by_cases hd:∃b,O'[n]? =some (.dc b)
  ·obtain⟨b,hb⟩:=hd;obtain⟨⟨c,hc,hk⟩,h2⟩:=h.dc n aF b hb;rw[hn]at hc;cases hc;have:g.val (L n).bh=b.val (L' n).bh:=by unfold gr.val;rw[hk,h2]
   rw[this];exact .gF n b hb
  ·refine .eQ n _ (lt_of_lt_of_le aF h.len) (λ b hb=> ?_) (λ b hb=>hd ⟨b,hb⟩) (g.val_one _);obtain⟨⟨c,hc⟩,_⟩:=h.own n aF b hb;rw[hn]at hc;cases hc
 |eQ n x hn cE hng h1=>
  refine .eQ n x (lt_of_lt_of_le hn h.len) (λ b hb=> ?_) (λ g hg=> ?_) h1
  ·obtain⟨⟨c,hc⟩,_⟩:=h.own n hn b hb;exact cE c hc
  ·obtain⟨⟨c,hc,_⟩,_⟩:=h.dc n hn g hg;exact hng c hc
def Mk(m:Nat×Nat)(n s:Nat):Prop:=m=(0,0)∨(m=(n,n+1)/\s=1)
def aaY(I:dv)(L:Nat->Loc)(O:List ae)(w:World)(l:Loc)(e s:Nat)(xs:List AV):Prop:=
 ∃c:Array Value,(∃m,w.heap[l.bh]? =some (.cells c e m)/\Mk m c.size s)/\c.size=l.cap*s/\xs.length<=l.cap/\l.cap<=maxLen/\0<s/\
  ∀(i:Nat) x,xs[i]? =some x->x.cells.length=s/\∀(j:Nat) a,x.cells[j]? =some a->∃y,c[i*s+j]? =some y/\y.oneCell'=true/\R I L O a y
def kl(w:World)(b:Nat):Option Nat:=
 match w.heap[b]? with
 |some (.cells c _ _)=>some c.size
 |_=>none
theorem j5{w:World}{b o:Nat}{x:Value}(h:w.cell? ⟨b,o,none⟩=some x):b<w.heap.size:=by
 unfold World.cell? at h
 split at h
 ·rename_i c e f hh;exact(Array.getElem?_eq_some_iff.1 hh).1
 ·cases h
inductive OT(w:World):AV->Value->(Nat->Prop)->Prop
 |v (x:Value):x.oneCell'=true->OT w (.v x) x λ _=>False
 |aw:OT w .aw (.slice none 0 0) λ _=>False
 |lG (a:Option Addr) (cap:Nat):OT w (.sl []) (.slice a 0 cap) λ _=>False
 |sl (xs:List AV) (bh cap s e:Nat) (c:Array Value) (bA:Nat->Nat->Value) (S:Nat->Nat->Nat->Prop) (m:Nat×Nat):
  w.heap[bh]? =some (.cells c e m)->Mk m c.size s->c.size=cap*s->xs.length<=cap->cap<=maxLen->0<s->xs≠[]->
  (∀(i:Nat) (x:AV),xs[i]? =some x->x.cells.length=s)->
  (∀(i:Nat) (x:AV) (j:Nat) (a:AV),xs[i]? =some x->x.cells[j]? =some a->c[i*s+j]? =some (bA i j)/\(bA i j).oneCell'=true)->
  (∀(i:Nat) (x:AV) (j:Nat) (a:AV),xs[i]? =some x->x.cells[j]? =some a->OT w a (bA i j) (S i j))->
  (∀i j b,S i j b->∃x a,xs[i]? =some x/\x.cells[j]? =some a)->(∀i j,¬S i j bh)->(∀i j i' j' b,S i j b->S i' j' b->i=i'/\j=j')->
  OT w (.sl xs) (.slice (some ⟨bh,0,none⟩) xs.length cap) λ b=>b=bh∨∃i j,S i j b
theorem OT.we{w:World}{a:AV}{x:Value}{S:Nat->Prop}(h:OT w a x S):x.oneCell'=true:=by
 cases h<;>first|rfl|assumption
theorem OT.block{w:World}{a:AV}{x:Value}{S:Nat->Prop}(h:OT w a x S):∀b,S b->b<w.heap.size/\∃v,w.cell? ⟨b,0,none⟩=some v:=by
 induction h with
 |v=>intro b h;exact h.elim
 |aw=>intro b h;exact h.elim
 |lG=>intro b h;exact h.elim
 |sl xs bh cap s e c bA S m h1 hmk h2 h3 h4 h5 h6 h7 h8 h9 h10 h11 h12 ih=>
  rintro b (rfl|⟨i,j,hs⟩)
  ·refine⟨(Array.getElem?_eq_some_iff.1 h1).1,?_⟩
   have hp:0<c.size:=by
    rw[h2];exact Nat.mul_pos (by have:=List.length_pos_iff.2 h6;omega) h5
   exact⟨c[0],by unfold World.cell?;simp[h1,hp]⟩
  ·obtain⟨x,a,hx,ha⟩:=h10 i j b hs;exact ih i x j a hx ha b hs
theorem OT.congr{w w':World}{a:AV}{x:Value}{S:Nat->Prop}(h:OT w a x S):(∀b,S b->w'.heap[b]? =w.heap[b]?)->OT w' a x S:=by
 induction h with
 |v x h=>intro _;exact .v x h
 |aw=>intro _;exact .aw
 |lG a cap=>intro _;exact .lG a cap
 |sl xs bh cap s e c bA S m h1 hmk h2 h3 h4 h5 h6 h7 h8 h9 h10 h11 h12 ih=>
  intro hw;exact .sl xs bh cap s e c bA S m ((hw bh (.inl rfl)).trans h1) hmk h2 h3 h4 h5 h6 h7 h8 (λ i x j a hx ha=>ih i x j a hx ha λ b hb=>hw b (.inr ⟨i,j,hb⟩)) h10 h11 h12
theorem OT.read{w:World}{a:AV}{x:Value}{S:Nat->Prop}(h:OT w a x S):∀(I:dv) (L:Nat->Loc) (O:List ae),(∀b o v,S b->w.cell? ⟨b,o,none⟩=some v->I b o=some v)->R I L O a x:=by
 induction h with
 |v x h=>intro I L O _;exact .v x h
 |aw=>intro I L O _;exact .aw
 |lG a cap=>intro I L O _;exact .lG a cap
 |sl xs bh cap s e c bA S m h1 hmk h2 h3 h4 h5 h6 h7 h8 h9 h10 h11 h12 ih=>
  intro I L O hI;refine .sl xs bh 0 cap s bA h3 h6 h7 (λ i x j a hx ha=>⟨hI bh _ _ (.inl rfl) ?_,(h8 i x j a hx ha).2⟩) λ i x j a hx ha=>ih i x j a hx ha I L O λ b o v hb hv=>hI b o v (.inr ⟨i,j,hb⟩) hv
  unfold World.cell?;simp[h1,(h8 i x j a hx ha).1]
structure Own(I:dv)(L:Nat->Loc)(O:List ae)(w:World):Prop where
 tree:∀(n:Nat) (a:AV),O[n]? =some (.own a)->∀L' O',R (L n).mem L' O' a (L n).val
 cell:∀(n:Nat) (a:AV),O[n]? =some (.own a)->∀b o v,(L n).mem b o=some v->w.cell? ⟨b,o,none⟩=some v
 j4:∀(n:Nat) (a:AV),O[n]? =some (.own a)->∀b o v,(L n).mem b o=some v->∀o',I b o'=none
 live:∀(n:Nat) (a:AV),O[n]? =some (.own a)->∀b o v,(L n).mem b o=some v->∀(m e s:Nat) (xs:List AV),O[m]? =some (.live e s xs)->(L m).bh≠b
 sep:∀(n m:Nat) (a c:AV),O[n]? =some (.own a)->O[m]? =some (.own c)->∀b o o' v v',(L n).mem b o=some v->(L m).mem b o'=some v'->n=m
 deep:∀(n:Nat) (a:AV),O[n]? =some (.own a)->∃S:Nat->Prop,OT w a (L n).val S/\∀b,S b↔∃o v,(L n).mem b o=some v
def LV(L:Nat->Loc)(O:List ae)(b:Nat):Prop:=∃(n:Nat) (e s:Nat) (xs:List AV),O[n]? =some (.live e s xs)/\(L n).bh=b
def OB(L:Nat->Loc)(O:List ae)(b:Nat):Prop:=∃(n:Nat) (a:AV) (o:Nat) (v:Value),O[n]? =some (.own a)/\(L n).mem b o=some v
theorem Own.no{I:dv}{L:Nat->Loc}{O:List ae}{w:World}(h:∀(n:Nat) (a:AV),O[n]? ≠some (.own a)):Own I L O w:=
 ⟨λ n a hn=>(h n a hn).elim,λ n a hn=>(h n a hn).elim,λ n a hn=>(h n a hn).elim,λ n a hn=>(h n a hn).elim,λ n _ a _ hn=>(h n a hn).elim,λ n a hn=>(h n a hn).elim⟩
theorem Own.aqt{I I':dv}{L L':Nat->Loc}{O O':List ae}{w w':World}(h:Own I L O w)
  (hO:∀(n:Nat) (a:AV),O'[n]? =some (.own a)->O[n]? =some (.own a)/\L' n=L n)
  (hI:∀b o v,I' b o=some v->(∃o v,I b o=some v)∨LV L O b∨w.heap.size<=b∨∃(n:Nat) (a:AV) (o:Nat) (v:Value),O[n]? =some (.own a)/\(L n).mem b o=some v/\∀c,O'[n]? ≠some (.own c))
  (hL:∀(m e s:Nat) (xs:List AV),O'[m]? =some (.live e s xs)->LV L O (L' m).bh∨w.heap.size<=(L' m).bh)
  (hw:∀b,b<w.heap.size->¬LV L O b->w'.heap[b]? =w.heap[b]?):Own I' L' O' w':=by
 have key:∀(n:Nat) (a:AV),O'[n]? =some (.own a)->∀b o v,(L' n).mem b o=some v->(L n).mem b o=some v/\b<w.heap.size/\¬LV L O b:=λ n a hn b o v hv=>by
  obtain⟨h1,h2⟩:=hO n a hn;rw[h2]at hv;exact⟨hv,j5 (h.cell n a h1 b o v hv),λ ⟨m,e,s,xs,hm,hb⟩=>h.live n a h1 b o v hv m e s xs hm hb⟩
 refine⟨λ n a hn=> ?_,λ n a hn b o v hv=> ?_,λ n a hn b o v hv o'=> ?_,λ n a hn b o v hv m e s xs hm hb=> ?_,λ n m a c hn hm b o o' v v' hv jO=> ?_,λ n a hn=> ?_⟩
 ·obtain⟨h1,h2⟩:=hO n a hn;rw[h2];exact h.tree n a h1
 ·obtain⟨h0,h1,h2⟩:=key n a hn b o v hv;have:=h.cell n a (hO n a hn).1 b o v h0;rw[←this];exact World.cell?_of_block (a:=⟨b,o,none⟩) (hw b h1 h2)
 ·obtain⟨h0,h1,h2⟩:=key n a hn b o v hv;cases hq:I' b o' with
  |none=>rfl
  |some u=>
   rcases hI b o' u hq with⟨o2,v2,h3⟩|h3|h3|⟨m,c,o2,v2,h3,h4,h5⟩
   ·rw[h.j4 n a (hO n a hn).1 b o v h0 o2]at h3;cases h3
   ·exact(h2 h3).elim
   ·omega
   ·have:=h.sep n m a c (hO n a hn).1 h3 b o o2 v v2 h0 h4;subst this;exact(h5 a hn).elim
 ·obtain⟨h0,h1,h2⟩:=key n a hn b o v hv;rcases hL m e s xs hm with h3|h3
  ·rw[hb]at h3;exact h2 h3
  ·omega
 ·exact h.sep n m a c (hO n a hn).1 (hO m c hm).1 b o o' v v' (key n a hn b o v hv).1 (key m c hm b o' v' jO).1
 ·obtain⟨S,h1,h2⟩:=h.deep n a (hO n a hn).1;rw[(hO n a hn).2];refine⟨S,h1.congr λ b hb=> ?_,h2⟩;obtain⟨o,v,hv⟩:=(h2 b).1 hb;obtain⟨_,h3,h4⟩:=key n a hn b o v (by rw[(hO n a hn).2];exact hv);exact hw b h3 h4
theorem Own.step{I I':dv}{L L':Nat->Loc}{O O':List ae}{w w':World}(h:Own I L O w)
  (hO:∀(n:Nat) (a:AV),O'[n]? =some (.own a)->O[n]? =some (.own a)/\L' n=L n)
  (hI:∀b o v,I' b o=some v->(∃o v,I b o=some v)∨LV L O b∨w.heap.size<=b)
  (hL:∀(m e s:Nat) (xs:List AV),O'[m]? =some (.live e s xs)->LV L O (L' m).bh∨w.heap.size<=(L' m).bh)
  (hw:∀b,b<w.heap.size->¬LV L O b->w'.heap[b]? =w.heap[b]?):Own I' L' O' w':=
 h.aqt hO (λ b o v hv=>by
   rcases hI b o v hv with h1|h1|h1
   ·exact .inl h1
   ·exact .inr (.inl h1)
   ·exact .inr (.inr (.inl h1))) hL hw
theorem Own.same{I I':dv}{L L':Nat->Loc}{O O':List ae}{w w':World}(h:Own I L O w)
  (hO:∀(n:Nat) (a:AV),O'[n]? =some (.own a)->O[n]? =some (.own a)/\L' n=L n)
  (hI:∀b o v,I' b o=some v->(∃o v,I b o=some v)∨LV L O b∨w.heap.size<=b)
  (hL:∀(m e s:Nat) (xs:List AV),O'[m]? =some (.live e s xs)->LV L O (L' m).bh∨w.heap.size<=(L' m).bh) (hw:w'=w):Own I' L' O' w':=
 h.step hO hI hL λ _ _ _=>by rw[hw]
theorem Own.aL{I:dv}{L:Nat->Loc}{O:List ae}{w w':World}(h:Own I L O w)(hw:∀b,b<w.heap.size->¬LV L O b->w'.heap[b]? =w.heap[b]?):Own I L O w':=
 h.step (λ _ _ h=>⟨h,rfl⟩) (λ _ o v hv=> .inl ⟨o,v,hv⟩) (λ m e s xs h=> .inl ⟨m,e,s,xs,h,rfl⟩) hw
def qY(I:dv)(L:Nat->Loc)(O:List ae)(w:World)(l:Loc):gr->Prop
 | .mp es=>∃(en:Array MapEntry) (clock:Nat),w.heap[l.bh]? =some (.map en clock)/\en.size=es.length/\∀(i:Nat) k v,es[i]? =some (k,v)->∃e,en[i]? =some e/\R I L O k e.key/\R I L O v e.val
 | .it s pos=>w.heap[l.bh]? =some (.stringIter s pos)
def wy(w:World)(b:Nat):Prop:=b<w.heap.size/\∀c e z,w.heap[b]? ≠some (.cells c e z)
theorem qY.no{I:dv}{L:Nat->Loc}{O:List ae}{w:World}{l:Loc}{g:gr}(h:qY I L O w l g):wy w l.bh:=by
 cases g with
 |mp es=>
  obtain⟨en,c,h1,_⟩:=h;exact⟨(Array.getElem?_eq_some_iff.1 h1).1,λ c e z hc=>by rw[h1]at hc;cases hc⟩
 |it s p=>exact⟨(Array.getElem?_eq_some_iff.1 h).1,λ c e z hc=>by rw[show w.heap[l.bh]? =_ from h]at hc;cases hc⟩
theorem wy.cell{w:World}{b o:Nat}(h:wy w b):w.cell? ⟨b,o,none⟩=none:=by
 unfold World.cell?
 split
 ·rename_i c e f hh;exact(h.2 _ _ _ hh).elim
 ·rfl
structure Gh(I:dv)(L:Nat->Loc)(O:List ae)(w:World):Prop where
 ok:∀(n:Nat) (g:gr),O[n]? =some (.dc g)->qY I L O w (L n) g
 sep:∀(n m:Nat) (g h:gr),O[n]? =some (.dc g)->O[m]? =some (.dc h)->(L n).bh=(L m).bh->n=m
def GB(L:Nat->Loc)(O:List ae)(b:Nat):Prop:=∃(n:Nat) (g:gr),O[n]? =some (.dc g)/\(L n).bh=b
theorem Gh.no{I:dv}{L:Nat->Loc}{O:List ae}{w:World}(h:∀(n:Nat) (g:gr),O[n]? ≠some (.dc g)):Gh I L O w:=
 ⟨λ n a hn=>(h n a hn).elim,λ n _ a _ hn=>(h n a hn).elim⟩
theorem qY.mono{I I':dv}{L L':Nat->Loc}{O O':List ae}{w w':World}{l l':Loc}{g:gr}(h:qY I L O w l g)(hl:l'.bh=l.bh)(hR:∀a x,R I L O a x->R I' L' O' a x)(hw:w'.heap[l.bh]? =w.heap[l.bh]?):qY I' L' O' w' l' g:=by
 cases g with
 |mp es=>
  obtain⟨en,c,h1,h2,h3⟩:=h;refine⟨en,c,by rw[hl,hw];exact h1,h2,λ i k v hi=> ?_⟩;obtain⟨e,h4,h5,h6⟩:=h3 i k v hi;exact⟨e,h4,hR _ _ h5,hR _ _ h6⟩
 |it s p=>
  have h0:w.heap[l.bh]? =some (.stringIter s p):=h
  show w'.heap[l'.bh]? =some (.stringIter s p);rw[hl,hw];exact h0
theorem Gh.step{I I':dv}{L L':Nat->Loc}{O O':List ae}{w w':World}(h:Gh I L O w)
  (hO:∀(n:Nat) (g:gr),O'[n]? =some (.dc g)->O[n]? =some (.dc g)/\(L' n).bh=(L n).bh)
  (hR:∀a x,R I L O a x->R I' L' O' a x)
  (hw:∀b,wy w b->w'.heap[b]? =w.heap[b]?):Gh I' L' O' w':=by
 refine⟨λ n g hn=> ?_,λ n m g k hn hm hb=> ?_⟩
 ·obtain⟨h1,h2⟩:=hO n g hn;exact(h.ok n g h1).mono h2 hR (hw _ (h.ok n g h1).no)
 ·obtain⟨h1,h2⟩:=hO n g hn;obtain⟨h3,h4⟩:=hO m k hm;exact h.sep n m g k h1 h3 (by rw[←h2,←h4];exact hb)
structure Inv(I:dv)(L:Nat->Loc)(O:List ae)(w:World):Prop where
 j4:∀b o x,I b o=some x->w.cell? ⟨b,o,none⟩=some x
 obj:∀(n:Nat) e s xs,O[n]? =some (.live e s xs)->aaY I L O w (L n) e s xs
 sep:∀(n m:Nat) e s xs e' s' ys,O[n]? =some (.live e s xs)->O[m]? =some (.live e' s' ys)->(L n).bh=(L m).bh->n=m
 dS:∀(n:Nat) e s xs o,O[n]? =some (.live e s xs)->I (L n).bh o=none
 fix:∀p∈oC,I p.1 p.2.1=some p.2.2
 bh:∀q∈lK,kl w q.1=some q.2/\∃v,I q.1 0=some v/\ad2 q.1 v=true
 ow:Own I L O w
 gh:Gh I L O w
def LB(L:Nat->Loc)(O:List ae)(b:Nat):Prop:=LV L O b∨OB L O b∨GB L O b
theorem yZ{L:Nat->Loc}{b:Nat}:¬LB L [] b:=by
 rintro(⟨n,e,s,xs,h,_⟩|⟨n,a,o,v,h,_⟩|⟨n,g,h,_⟩)<;>simp at h
structure Frm(own:Nat->Prop)(w w':World):Prop where
 os:w'.os=w.os
 tape:w'.tape=w.tape
 output:w'.output=w.output
 size:w.heap.size<=w'.heap.size
 block:∀b,b<w.heap.size->¬own b->w'.heap[b]? =w.heap[b]?
theorem Frm.refl(own:Nat->Prop)(w:World):Frm own w w:=⟨rfl,rfl,rfl,le_refl _,λ _ _ _=>rfl⟩
theorem Frm.trans{own avQ:Nat->Prop}{w w' w'':World}(h:Frm own w w')(k:Frm avQ w' w'')(ho:∀b,avQ b->own b∨w.heap.size<=b):Frm own w w'':=
 ⟨k.os.trans h.os,k.tape.trans h.tape,k.output.trans h.output,le_trans h.size k.size,λ b hb hn=>
   (k.block b (lt_of_lt_of_le hb h.size) (λ hc=>by rcases ho b hc with h1|h1<;>first|exact hn h1|omega)).trans (h.block b hb hn)⟩
theorem agJ{w:World}{b n:Nat}(h:kl w b=some n):b<w.heap.size:=by
 unfold kl at h
 split at h
 ·rename_i hq;exact(Array.getElem?_eq_some_iff.1 hq).1
 ·cases h
theorem agK{w w':World}{b:Nat}(h:w'.heap[b]? =w.heap[b]?):kl w' b=kl w b:=by
 unfold kl;rw[h]
theorem Inv.tb{I I':dv}{L:Nat->Loc}{O:List ae}{w w':World}(hi:Inv I L O w)(hw:∀b,b<w.heap.size->¬LB L O b->w'.heap[b]? =w.heap[b]?)(hI:∀b o x,I b o=some x->I' b o=some x):
  ∀q∈lK,kl w' q.1=some q.2/\∃v,I' q.1 0=some v/\ad2 q.1 v=true:=by
 intro q hq;obtain⟨h1,v,h2,h3⟩:=hi.bh q hq;refine⟨?_,v,hI _ _ _ h2,h3⟩;rw[agK (hw q.1 (agJ h1) ?_)]
 ·exact h1
 ·rintro(⟨n,e,s,xs,hn,hb⟩|⟨n,a,o,u,hn,hb⟩|⟨n,g,hn,hb⟩)
  rotate_right
  ·have h4:=(hi.gh.ok n g hn).no.cell (o:=0);rw[hb,hi.j4 _ _ _ h2]at h4;cases h4
  ·have:=hi.dS n e s xs 0 hn;rw[hb,h2]at this;cases this
  ·have:=hi.ow.j4 n a hn q.1 o u hb 0;rw[h2]at this;cases this
theorem Inv.wx{I I':dv}{L:Nat->Loc}{O:List ae}{w:World}(hi:Inv I L O w)(hI:∀b o x,I b o=some x->I' b o=some x):
 ∀q∈lK,kl w q.1=some q.2/\∃v,I' q.1 0=some v/\ad2 q.1 v=true:=hi.tb (λ _ _ _=>rfl) hI
theorem Frm.below{w w':World}(h:Frm (λ _=>False) w w'):RowKit.Below w.heap.size w w':=
 ⟨h.os,h.tape,h.output,h.size,λ k hk=>h.block k hk (λ x=>x)⟩
def RL(I:dv)(L:Nat->Loc)(O:List ae)(as:List AV)(vs:Array Value):Prop:=
 as.length=vs.size/\∀(i:Nat) a x,as[i]? =some a->vs[i]? =some x->R I L O a x
structure Good(I:dv)(L:Nat->Loc)(O:List ae)(w:World)(I':dv)(L':Nat->Loc)(O':List ae)(w':World):Prop where
 inv:Inv I' L' O' w'
 ext:Ext I L O I' L' O'
 pa:Frm (LB L O) w w'
 lb:∀b,LB L' O' b->LB L O b∨w.heap.size<=b
 iz:∀b o x,I' b o=some x->I b o=some x∨LB L O b∨w.heap.size<=b
def agT(P:Program)(f:FuncId):Prop:=∃fn,P.funcs[f]? =some fn/\fn.body.isSome=true/\(fn.name== "runtime.NumGoroutine")=false
def hD(P:Program)(f:FuncId)(args:List AV)(O:List ae)(res:AV)(O':List ae):Prop:=
 agT P f/\∀I L w vs,Inv I L O w->RL I L O args vs->Calls P f vs w λ e w'=>∃y I' L',e= .returned y/\R I' L' O' res y/\Good I L O w I' L' O' w'
def a7(P:Program)(f:FuncId)(args:List AV)(res:AV):Prop:=hD P f args [] res []
end Go.Ab
namespace Go.Ab
theorem Mk.free{m:Nat×Nat}{n s j:Nat}(h:Mk m n s)(hj:j<n):(decide (m.1<=j)&&decide (j<m.2))=false:=by
 rcases h with rfl|⟨rfl,_⟩<;>simp<;>omega
theorem Mk.size{m:Nat×Nat}{n s k:Nat}(h:Mk m n s)(he:k=n):Mk m k s:=he▸h
theorem hZ{P:Program}(g o s:Nat)(t:TypeId)(m:Nat×Nat):∀(vs:List Value) (i:Nat) (cur:Array Value) (w:World),w.heap[g]? =some (.cells cur t m)->Mk m cur.size s->o+i+vs.length<=cur.size->(∀v∈vs,v.oneCell'=true)->
  (storeCells ⟨g,o,none⟩ vs i).run P w= .ok () (w.setRow g (cur.toList.take (o+i)++vs++cur.toList.drop (o+i+vs.length)).toArray)
 | [],i,cur,w,hg,_,_,_=>by
   simp only[storeCells,append_nil,List.length_nil,add_zero,List.take_append_drop,Array.toArray_toList];rw[setRow_self w g cur t m hg]
   rfl
 |v::rest,i,cur,w,hg,hm,hl,h1=>by
  have hl':o+i+(rest.length+1)<=cur.size:=by simpa using hl
  have hi:o+i<cur.size:=by omega
  have aAs:(⟨g,o,none⟩:Addr).add i=⟨g,o+i,none⟩:=by unfold Addr.add;split<;>simp_all
  have az5:w.frozen? ⟨g,o+i,none⟩=false:=by
   obtain⟨lo,up⟩:=m;have:=hm.free hi;simpa [World.frozen?,hg]using this
  have om:(store ((⟨g,o,none⟩:Addr).add i) v).run P w= .ok () (w.setRow g (cur.setIfInBounds (o+i) v)):=by
   rw[aAs,run_store P w _ v _ (h1 v (by simp)),show w.cell? ⟨g,o+i,none⟩=some cur[o+i] by simp[World.cell?,hg,hi]];simp[az5,setCell_eq_setRow w g (o+i) cur t m v hg]
  have ih:=hZ (P:=P) g o s t m rest (i+1) (cur.setIfInBounds (o+i) v) (w.setRow g (cur.setIfInBounds (o+i) v)) (setRow_heap w g cur _ t _ hg) (hm.size (by simp)) (by simp;omega) (λ x hx=>h1 x (by simp[hx]));simp only[storeCells,Sem.run_bind,om,Result.andThen_ok,ih,setRow_setRow];congr 3
  have aAe:∀(c:List Value),o+i+(rest.length+1)<=c.length->(c.set (o+i) v).take (o+(i+1))++rest++(c.set (o+i) v).drop (o+(i+1)+rest.length)=c.take (o+i)++v::rest++c.drop (o+i+(rest.length+1)):=by
   intro c hc
   have e1:(c.set (o+i) v).take (o+(i+1))=c.take (o+i)++ [v]:=by
    apply ext_getElem?;intro k;by_cases hk:k<o+i
    ·rw[getElem?_take,if_pos (by omega),getElem?_set_ne (by omega),getElem?_append_left (by simp;omega),getElem?_take,if_pos hk]
    ·by_cases hk2:k=o+i
     ·subst hk2;rw[getElem?_take,if_pos (by omega),getElem?_set_self (by omega),getElem?_append_right (by simp;omega),length_take];simp[min_eq_left (show o+i<=c.length by omega)]
     ·rw[getElem?_take,if_neg (by omega),getElem?_eq_none (by simp;omega)]
   have e2:(c.set (o+i) v).drop (o+(i+1)+rest.length)=c.drop (o+i+(rest.length+1)):=by
    apply ext_getElem?;intro k;rw[getElem?_drop,getElem?_drop,getElem?_set_ne (by omega)];congr 1;omega
   rw[e1,e2];simp
  have:=aAe cur.toList (by simpa using hl');simpa [Array.toList_setIfInBounds]using this
theorem sq{P:Program}(w:World)(t ty e:TypeId)(i:TypeInfo)(ht:P.underlying t=some (.slice e))(hi:P.info? e=some i){m0:Nat×Nat}{s:Nat}
  (g jv qy:Nat) (cur:Array Value) (hg:w.heap[g]? =some (.cells cur e m0)) (hmk:Mk m0 cur.size s)
  (a:Addr) (m c:Nat) (news:List Value) (hl:news.length=m*i.size) (awP:∀j u,news[j]? =some u->w.cell? (a.add j)=some u) (h1:∀u∈news,u.oneCell'=true)
  (kH:jv+m<=qy) (mZ:jv*i.size+news.length<=cur.size):
  (Builtin.append_ #[t,t] ty #[.slice (some ⟨g,0,none⟩) jv qy,.slice (some a) m c]).run P w=
   .ok (.slice (some ⟨g,0,none⟩) (jv+m) qy) (w.setRow g (cur.toList.take (jv*i.size)++news++cur.toList.drop (jv*i.size+news.length)).toArray):=by
 have hf:=run_firstCells_some (P:=P) w i.size m a m c news hl awP;have om:=hZ (P:=P) g (jv*i.size) s e m0 news 0 cur w hg hmk (by simpa using mZ) h1;simp only[add_zero]at om;simp[Builtin.append_,run_underlying ht,sizeOf,typeInfo,hi,Builtin.lenOf,kH,hf,Addr.add_lit,om]
end Go.Ab
namespace Go.Ab
mutual
def AV.bU(s:Nat->Nat):AV->AV
 | .top=> .top
 | .v x=> .v x
 | .aw=> .aw
 | .uU=> .uU
 | .sl xs=> .sl (AV.rB s xs)
 | .ct x f=> .ct (x.bU s) f
 | .row n l=> .row (s n) l
 | .ptr n l i f=> .ptr (s n) l i f
 | .fn f cs=> .fn f (AV.rB s cs)
 | .agg cs=> .agg (AV.rB s cs)
 | .ba cs=> .ba (AV.rB s cs)
 | .own n=> .own (s n)
def AV.rB(s:Nat->Nat):List AV->List AV
 | []=>[]
 |x::xs=>x.bU s::AV.rB s xs
end
def gr.bU(s:Nat->Nat):gr->gr
 | .mp es=> .mp (es.map λ p=>(p.1.bU s,p.2.bU s))
 | .it a b=> .it a b
theorem gr.xf(s:Nat->Nat)(g:gr):(g.bU s).lY=g.lY:=by cases g<;>rfl
def ae.bU(s:Nat->Nat):ae->ae
 | .dc g=> .dc (g.bU s)
 | .dead=> .dead
 | .nil e s=> .nil e s
 | .live e k xs=> .live e k (xs.map (AV.bU s))
 | .own a=> .own a
inductive D where
 |x (i:Nat)
 |c (a:AV)
 |cell (i j:Nat)
 |ext (i j:Nat)
 |sl (l:D)
 |agg (l:List D)
 |fn (f:FuncId) (l:List D)
 |ip (d:D) (f:Nat)
instance:Inhabited D:=⟨.x 0⟩
inductive SV where
 |d (x:D)
 |row (n:Nat) (l:D)
 |ptr (n f:Nat)
 |rp (n:Nat) (l i:D) (f:Nat)
 |ip (x:D) (f:Nat)
 |agg (cs:List SV)
 |ba (cs:List SV)
 |top
instance:Inhabited SV:=⟨.top⟩
inductive SO where
 |dead
 |box (e:Nat) (cs:List SV)
 |row (nl:Bool) (e s:Nat) (l:D)
instance:Inhabited SO:=⟨.dead⟩
structure gK where
 n:Nat
 args:List SV
 ai:List SO
 m:Nat
 res:SV
 cG:List SO
 aL:List Nat
end Go.Ab
namespace Go.Ab
inductive aI where
 |t (n:Nat)
 |c (a:AV)
abbrev Env:=Nat->AV
def Env.set(e:Env)(t:Nat)(a:AV):Env:=λ k=>if k=t then a else e k
def aI.ev(e:Env):aI->AV
 | .t n=>e n
 | .c a=>a
def dG(n:Option Nat)(x:AV)(f:Nat):AV:=
 match n with
 |none=>x.cells.getD f .top
 |some m=>if f=0/\x.isAgg=true/\x.cells.length=m then x else .agg ((x.cells.drop f).take m)
def qC(x:AV)(f:Nat)(y:AV):AV:=
 if f=0/\y.cells.length=x.cells.length then y else .agg (x.cells.take f++y.cells++x.cells.drop (f+y.cells.length))
def AV.storable(x:AV):Bool:=x.cells.all AV.cg
inductive PU where
 |b2s
 |tP (neg:Bool)
 |oj (neg:Bool)
 |tQ (neg:Bool)
 |min
 |max
 |jc
def u8s:List AV->Option (List UInt8)
 | []=>some []
 | .v (.int .u8 n)::r=>(u8s r).map (UInt8.ofNat n.toNat::·)
 |_=>none
def v8(o:PU)(xs:List AV):Option AV:=
 match o,xs with
 | .b2s,[.sl ys]=>(u8s ys).map λ l=> .v (.string ⟨l.toArray⟩)
 | .b2s,[.aw]=>some (.v (.string ⟨#[]⟩))
 | .jc,[.aw]=>some (.v (.int .i64 0))
 | .tP neg,[.aw]=>some (.v (.bool (neg !=true)))
 | .tP neg,[.sl (_::_)]=>some (.v (.bool (neg !=false)))
 | .oj neg,[.v (.pointer none)]=>some (.v (.bool (neg !=true)))
 | .oj neg,[.ct _ _]=>some (.v (.bool (neg !=false)))
 | .tQ neg,[.v .nilIface]=>some (.v (.bool (neg !=true)))
 | .tQ neg,[.uU]=>some (.v (.bool (neg !=false)))
 | .min,[.v (.int k a),.v (.int k' b)]=>if k=k' then some (.v (.int k (if b<a then b else a)))else none
 | .max,[.v (.int k a),.v (.int k' b)]=>if k=k' then some (.v (.int k (if a<b then b else a)))else none
 |_,_=>none
def puK(o:PU)(xs:List AV)(K:AV->Prop):Prop:=
 match v8 o xs with
 |some v=>K v
 |none=>False
def af1:Value->Value->Bool
 | .int j a,.int k b=>decide (j=k)&&decide (a=b)
 | .string a,.string b=>decide (a=b)
 | .bool a,.bool b=>decide (a=b)
 |_,_=>false
def mK(k:Value):List (AV×AV)->Nat->Option (Nat×AV)
 | [],_=>none
 |(.v k',v)::es,i=>if af1 k k'=true then some (i,v)else mK k es (i+1)
 |_::es,i=>mK k es (i+1)
inductive KD where
 |int (k:IntKind)
 |str
 |bool
def KD.ok:KD->Value->Bool
 | .int k,.int j _=>decide (j=k)
 | .str,.string _=>true
 | .bool,.bool _=>true
 |_,_=>false
def KD.all(d:KD)(es:List (AV×AV)):Bool:=es.all λ p=>match p.1 with
 | .v k=>d.ok k
 |_=>false
def KD.of:TypeDesc->Option KD
 | .int k=>some (.int k)
 | .string=>some .str
 | .bool=>some .bool
 |_=>none
def o5(k:Value)(v:AV)(es:List (AV×AV)):List (AV×AV):=match mK k es 0 with
 |none=>es++ [(.v k,v)]
 |some (i,_)=>es.set i (.v k,v)
def eg(O:List ae)(i:Nat):Bool:=match O[i]? with
 |some (.live _ s [_])=>s !=1
 |_=>false
def iJ(O:List ae)(es:List (AV×AV)):Bool:=es.all λ p=>match p.1 with
 | .ptr i 1 0 0=>eg O i
 |_=>false
def gR(j:Nat):List (AV×AV)->Nat->Option (Nat×AV)
 | [],_=>none
 |(.ptr k _ _ _,v)::es,i=>if j=k then some (i,v)else gR j es (i+1)
 |_::es,i=>gR j es (i+1)
def jY(j:Nat)(v:AV)(es:List (AV×AV)):List (AV×AV):=match gR j es 0 with
 |none=>es++ [(.ptr j 1 0 0,v)]
 |some (i,_)=>es.set i (.ptr j 1 0 0,v)
inductive ew where
 |xF
 |aiS (ok:Bool) (d:KD) (z:AV) (m k:aI)
 |o5 (d:KD) (m k v:aI)
 |zt (ok:Bool) (z:AV) (m k:aI)
 |jY (m k v:aI)
 |zR (x:aI)
 |zU (x:aI)
 |s2b (e:Nat) (x:aI)
 |xI (e:Nat) (x:aI)
 |vt (neg:Bool) (x:aI)
 |peq (neg:Bool) (x y:aI)
 |stuck
 |iB (e s len:Nat) (z:AV) (parts:List (Nat×aI))
 |pu (o:PU) (args:List aI)
 |j7 (e s bytes:Nat) (x y:aI)
 |bc (x:aI)
 |pick (c a b:aI)
 |alloc (e s:Nat) (z:AV)
 |box (e s:Nat) (x:aI)
 |build (z:List AV) (parts:List (Nat×Nat×aI))
 |buildSlice (e s len:Nat) (z:AV) (parts:List (Nat×aI))
 |load (n:Option Nat) (x:aI)
 |store (m:Nat) (x y:aI)
 |bin (op:BinOp) (x y:aI)
 |beq (neg:Bool) (x y:aI)
 |un (op:UnOp) (x:aI)
 |jK (k:IntKind) (x:aI)
 |bX (off:Nat) (x:aI)
 |yC (off:Nat) (n:Option Nat) (x:aI)
 |fS (s:Nat) (x i:aI)
 |vi (m s:Nat) (x i:aI)
 |kU (x i:aI)
 |fC (x:aI) (lo hi:Option aI)
 |db (s:Nat) (x:aI) (lo hi:Option aI)
 |mk (e s bytes:Nat) (z:AV) (len cap:aI)
 |kC (x:aI)
 |bM (x:aI)
 |app (e s bytes:Nat) (x y:aI)
 |ext (x:aI) (i:Nat)
 |ef (x:aI)
 |rK (f:FuncId) (a6:List aI)
 |call (f:FuncId) (args:List aI)
 |eu (x:aI) (args:List aI)
 |mG (f:FuncId) (args:List aI)
 |jD (x:aI) (args:List aI)
 |k7 (f:FuncId) (args:List aI)
 |iv (x:aI) (args:List aI)
 |lT (f:FuncId) (args:List aI)
 |eV (nl:Bool) (e s:Nat) (f:FuncId) (args:List aI)
 |gq (k e s:Nat) (z:AV)
 |mo (k e s:Nat) (x:aI)
 |mkF (e s bytes:Nat) (z:AV) (len cap:aI)
 |xG (k e s bytes:Nat) (z:AV) (len cap:aI)
 |gn (k e s len:Nat) (z:AV) (parts:List (Nat×aI))
 |acy (e s bytes:Nat) (z:AV) (x n:aI)
 |cut (s:Nat) (x:aI) (lo hi:Option aI)
 |bp (gs:List gK) (f:FuncId) (args:List aI)
 |jC (gs:List gK) (f:FuncId) (args:List aI)
 |qM (rd:List Nat) (f:FuncId) (args:List aI)
 |qN (rd:List Nat) (f:FuncId) (args:List aI)
 |nn (kp:List Nat) (f:FuncId) (args:List aI)
def qz(op:BinOp)(k:IntKind)(a b:Int):Option Value:=
 match op with
 | .add=>some (.int k (k.wrap (a+b)))
 | .sub=>some (.int k (k.wrap (a- b)))
 | .mul=>some (.int k (k.wrap (a*b)))
 | .quo=>if b≠0 then some (.int k (k.wrap (a.tdiv b)))else none
 | .rem=>if b≠0 then some (.int k (a.tmod b))else none
 | .and=>some (.int k (k.wrap (BitVec.ofInt k.bits a&&&BitVec.ofInt k.bits b).toNat))
 | .or=>some (.int k (k.wrap (BitVec.ofInt k.bits a|||BitVec.ofInt k.bits b).toNat))
 | .xor=>some (.int k (k.wrap (BitVec.ofInt k.bits a^^^BitVec.ofInt k.bits b).toNat))
 | .eql=>some (.bool (a==b))
 | .neq=>some (.bool (a !=b))
 | .lss=>some (.bool (a<b))
 | .leq=>some (.bool (a<=b))
 | .gtr=>some (.bool (a>b))
 | .geq=>some (.bool (a≥b))
 |_=>none
def ag8(op:BinOp)(k:IntKind)(a b:Int):Option Value:=
 match op with
 | .shl=>if 0<=b then some (.int k (k.wrap (a*2^(min b.toNat k.bits))))else none
 | .shr=>if 0<=b then some (.int k (a.fdiv (2^(min b.toNat k.bits))))else none
 |_=>none
def zT(op:BinOp)(a b:ByteArray):Option Value:=
 match op with
 | .add=>if((a.size+b.size:Nat):Int)<=IntKind.i64.max then some (.string (a++b))else none
 | .eql=>some (.bool (a.toList==b.toList))
 | .neq=>some (.bool !(a.toList==b.toList))
 | .lss=>some (.bool (Op.bytesLess a.toList b.toList))
 | .leq=>some (.bool (Op.bytesLess a.toList b.toList||a.toList==b.toList))
 | .gtr=>some (.bool !(Op.bytesLess a.toList b.toList||a.toList==b.toList))
 | .geq=>some (.bool !(Op.bytesLess a.toList b.toList))
 |_=>none
def BinOp.eC:BinOp->Bool
 | .shl| .shr=>true
 |_=>false
def kQ(op:BinOp)(x y:Value):Option Value:=
 match x,y with
 | .int k a,.int k' b=>if BinOp.eC op=true then ag8 op k a b else if k=k' then qz op k a b else none
 | .string a,.string b=>zT op a b
 |_,_=>none
def sun(op:UnOp)(x:Value):Option Value:=
 match op,x with
 | .neg,.int k n=>some (.int k (k.wrap (0- n)))
 | .not,.bool b=>some (.bool !b)
 |_,_=>none
def jd(e:Env)(z:List AV):List (Nat×Nat×aI)->(AV->Prop)->Prop
 | [],K=>K (.agg z)
 |(off,size,x)::r,K=>(x.ev e).cells.length=size/\((x.ev e).cg||(x.ev e).isAgg)=true/\off+size<=z.length/\
  jd e (z.take off++(x.ev e).cells++z.drop (off+size)) r K
def mV(e:Env)(s:Nat)(xs:List AV):List (Nat×aI)->(List AV->Prop)->Prop
 | [],K=>K xs
 |(i,x)::r,K=>(x.ev e).cells.length=s/\(x.ev e).storable=true/\i<xs.length/\mV e s (xs.set i (x.ev e)) r K
def ft(d:Int)(e:Env):Option aI->(Int->Prop)->Prop
 |none,K=>K d
 |some x,K=>match x.ev e with| .v (.int _ i)=>K i|_=>False
def rh(O:List ae)(y:AV)(K:List AV->Prop):Prop:=
 match y with
 | .aw=>K []
 | .sl ys=>K ys
 | .row n len=>match O[n]? with
   |some (.live _ _ xs)=>xs.length=len/\K xs
   |some (.nil _ _)=>len=0/\K []
   |_=>False
 |_=>False
mutual
def AV.ag:AV->Bool
 | .top| .v _| .aw| .uU=>true
 | .sl xs=>AV.ad xs
 | .ct x _=>x.ag
 | .row _ _| .ptr _ _ _ _=>false
 | .fn _ cs=>AV.ad cs
 | .agg cs=>AV.ad cs
 | .ba vs=>AV.ad vs
 | .own _=>false
def AV.ad:List AV->Bool
 | []=>true
 |x::xs=>x.ag&&AV.ad xs
end
def iF(O:List ae)(a:AV):AV:=
 match a with
 | .row n len=>match O[n]? with
   |some (.live _ _ xs)=>if xs.length=len then .sl xs else a
   |some (.nil _ _)=>if len=0 then .sl []else a
   |_=>a
 | .own n=>match O[n]? with
   |some (.own b)=>b
   |_=>a
 |a=>a
def AV.flat:AV->Bool
 | .v _=>true
 | .ba vs=>vs.all λ x=>match x with| .v _=>true|_=>false
 |_=>false
def eA(O:List ae)(a:AV):List ae:=
 match a with
 | .row n _=>O.set n .dead
 | .own n=>O.set n .dead
 |_=>O
def vW(O:List ae)(args:List AV)(res:AV):List ae:=if res.flat=true then O else args.foldl eA O
def gY(O:List ae)(x:AV)(t s bytes:Nat)(ys:List AV)(K:AV->List ae->Prop):Prop:=
 match x with
 | .aw=>ys.length*bytes<=140737488355328/\ys.length<=maxLen/\(ys= []->K .aw O)/\(ys≠[]->K (.row O.length ys.length) (O++ [.live t s ys]))
 | .row n len=>match O[n]? with
   |some (.live t' s' xs)=>t'=t/\s'=s/\xs.length=len/\(len+ys.length)*bytes<=140737488355328/\len+ys.length<=maxLen/\
    K (.row n (len+ys.length)) (O.set n (.live t s (xs++ys)))
   |some (.nil t' s')=>t'=t/\s'=s/\len=0/\ys.length*bytes<=140737488355328/\ys.length<=maxLen/\
    (ys= []->K (.row n 0) O)/\(ys≠[]->K (.row n ys.length) (O.set n (.live t s ys)))
   |_=>False
 |_=>False
def aI.okc:aI->Bool
 | .t _=>true
 | .c a=>a.ag
def refs:AV->List Nat
 | .row n _=>[n]
 | .ptr n _ _ _=>[n]
 | .own n=>[n]
 |_=>[]
def AV.one:AV->Bool
 | .row n _=>n==0
 | .ptr n _ _ _=>n==0
 | .own n=>n==0
 |x=>x.ag
def ae.ad:ae->Bool
 | .live _ _ xs=>AV.ad xs
 | .dc (.mp es)=>es.all λ p=>p.1.ag&&p.2.ag
 |_=>true
def wpOp(P:Program)(o:ew)(e:Env)(O:List ae)(K:AV->List ae->Prop):Prop:=
 match o with
 | .stuck=>False
 | .iB _ s len z parts=>mV e s (List.replicate len z) parts λ xs=>AV.ad xs=true/\K (.sl xs) O
 | .pu o args=>AV.ad (args.map λ x=>iF O (x.ev e))=true/\puK o (args.map λ x=>iF O (x.ev e)) λ v=>K v O
 | .j7 t s bytes x y=>match y.ev e with
   | .v (.string b)=>s=1/\gY O (x.ev e) t s bytes (b.data.toList.map λ c=> .v (.int .u8 c.toNat)) K
   |_=>False
 | .bc x=>K (x.ev e) O
 | .pick c a b=>match c.ev e with
   | .v (.bool t)=>K (if t then a.ev e else b.ev e) O
   |_=>False
 | .alloc t s z=>K (.ptr O.length 1 0 0) (O++ [.live t s [z]])
 | .box t s x=>(x.ev e).cells.length=s/\(x.ev e).storable=true/\K (.ptr O.length 1 0 0) (O++ [.live t s [x.ev e]])
 | .build z parts=>jd e z parts λ a=>K a O
 | .buildSlice t s len z parts=>mV e s (List.replicate len z) parts λ xs=>K (.row O.length len) (O++ [.live t s xs])
 | .gq k t s z=>z.ag=true/\O[k]? =some (.nil t s)/\K (.ptr k 1 0 0) (O.set k (.live t s [z]))
 | .mo k t s x=>x.okc=true/\O[k]? =some (.nil t s)/\(x.ev e).cells.length=s/\(x.ev e).storable=true/\K (.ptr k 1 0 0) (O.set k (.live t s [x.ev e]))
 | .gn k t s len z parts=>z.ag=true/\parts.all (λ p=>p.2.okc)=true/\mV e s (List.replicate len z) parts λ xs=>O[k]? =some (.nil t s)/\xs≠[]/\K (.row k len) (O.set k (.live t s xs))
 | .load n x=>match x.ev e with
   | .ct y f=>f+n.getD 1<=y.cells.length/\K (dG n y f) O
   | .ptr k len i f=>match O[k]? with
     |some (.live _ _ xs)=>xs.length=len/\i<len/\f+n.getD 1<=(xs.getD i .top).cells.length/\K (dG n (xs.getD i .top) f) O
     |_=>False
   |_=>False
 | .store m x y=>match x.ev e with
   | .ptr k len i f=>match O[k]? with
     |some (.live t s xs)=>xs.length=len/\i<len/\(y.ev e).cells.length=m/\(y.ev e).storable=true/\f+m<=(xs.getD i .top).cells.length/\
      K .top (O.set k (.live t s (xs.set i (qC (xs.getD i .top) f (y.ev e)))))
     |_=>False
   |_=>False
 | .bin op x y=>match x.ev e,y.ev e with
   | .v a,.v b=>match kQ op a b with
     |some z=>K (.v z) O
     |none=>False
   |_,_=>False
 | .beq neg x y=>match x.ev e,y.ev e with
   | .v (.bool a),.v (.bool b)=>K (.v (.bool (neg !=(a==b)))) O
   |_,_=>False
 | .un op x=>match x.ev e with
   | .v a=>match sun op a with
     |some z=>K (.v z) O
     |none=>False
   |_=>False
 | .jK k x=>match x.ev e with
   | .v (.int _ n)=>K (.v (.int k (k.wrap n))) O
   |_=>False
 | .bX off x=>match x.ev e with
   | .ct y f=>K (.ct y (f+off)) O
   | .ptr n len i f=>match O[n]? with
     |some (.live _ _ xs)=>xs.length=len/\K (.ptr n len i (f+off)) O
     |_=>False
   |_=>False
 | .yC off n x=>(x.ev e).isAgg=true/\off+n.getD 1<=(x.ev e).cells.length/\K (dG n (x.ev e) off) O
 | .fS s x i=>match x.ev e,i.ev e with
   | .sl xs,.v (.int _ i)=>0<=i/\i<xs.length/\(xs.getD i.toNat .top).cells.length=s/\K (.ct (xs.getD i.toNat .top) 0) O
   | .row n len,.v (.int _ i)=>match O[n]? with
     |some (.live _ s' xs)=>s'=s/\xs.length=len/\0<=i/\i<len/\K (.ptr n len i.toNat 0) O
     |_=>False
   |_,_=>False
 | .vi m s x i=>match x.ev e,i.ev e with
   | .ct y f,.v (.int _ i)=>0<=i/\i<m/\K (.ct y (f+i.toNat*s)) O
   | .ptr n len j f,.v (.int _ i)=>match O[n]? with
     |some (.live _ _ xs)=>xs.length=len/\0<=i/\i<m/\K (.ptr n len j (f+i.toNat*s)) O
     |_=>False
   |_,_=>False
 | .kU x i=>match x.ev e,i.ev e with
   | .v (.string s),.v (.int _ i)=>0<=i/\i<s.size/\K (.v (.int .u8 (s.data.toList.getD i.toNat 0).toNat)) O
   |_,_=>False
 | .fC x lo hi=>match x.ev e with
   | .v (.string s)=>ft 0 e lo λ l=>ft s.size e hi λ h=>0<=l/\l<=h/\h<=s.size/\K (.v (.string (s.extract l.toNat h.toNat))) O
   |_=>False
 | .db s x lo hi=>match x.ev e with
   | .sl xs=>ft 0 e lo λ l=>ft xs.length e hi λ h=>0<=l/\l<=h/\h<=xs.length/\(∀y∈xs,y.cells.length=s)/\K (.sl ((xs.take h.toNat).drop l.toNat)) O
   |_=>False
 | .acy t s bytes z x n=>match x.ev e,n.ev e with
   | .aw,.v (.int .i64 k)=>0<k/\bytes*k<=2^48/\k<=maxLen/\K (.row O.length k.toNat) (O++ [.live t s (List.replicate k.toNat z)])
   |_,_=>False
 | .cut s x lo hi=>match x.ev e with
   | .aw=>ft 0 e lo λ l=>ft 0 e hi λ h=>l=0/\h=0/\K .aw O
   | .row n len=>match O[n]? with
     |some (.live t s' xs)=>xs.length=len/\s'=s/\ft 0 e lo λ l=>ft len e hi λ h=>l=0/\h=0/\K (.row O.length 0) (O.set n .dead++ [.live t s []])
     |_=>False
   |_=>False
 | .mk t s bytes z len cap=>match len.ev e,cap.ev e with
   | .v (.int .i64 n),.v (.int .i64 c)=>0<=n/\n<=c/\bytes*c<=2^48/\c<=maxLen/\K (.row O.length n.toNat) (O++ [.live t s (List.replicate n.toNat z)])
   |_,_=>False
 | .mkF _ _ bytes z len cap=>match len.ev e,cap.ev e with
   | .v (.int .i64 n),.v (.int .i64 c)=>0<=n/\n<=c/\bytes*c<=2^48/\c<=maxLen/\z.ag=true/\K (.sl (List.replicate n.toNat z)) O
   |_,_=>False
 | .xG k t s bytes z len cap=>match len.ev e,cap.ev e with
   | .v (.int .i64 n),.v (.int .i64 c)=>0<n/\n<=c/\bytes*c<=2^48/\c<=maxLen/\z.ag=true/\O[k]? =some (.nil t s)/\K (.row k n.toNat) (O.set k (.live t s (List.replicate n.toNat z)))
   |_,_=>False
 | .kC x=>match x.ev e with
   | .v (.string s)=>K (.v (.int .i64 s.size)) O
   |_=>False
 | .bM x=>match x.ev e with
   | .aw=>K (.v (.int .i64 0)) O
   | .sl xs=>K (.v (.int .i64 xs.length)) O
   | .row n len=>match O[n]? with
     |some (.live _ _ xs)=>xs.length=len/\K (.v (.int .i64 len)) O
     |some (.nil _ _)=>len=0/\K (.v (.int .i64 0)) O
     |_=>False
   |_=>False
 | .app t s bytes x y=>rh O (y.ev e) λ ys=>(∀y∈ys,y.cells.length=s)/\gY O (x.ev e) t s bytes ys K
 | .ext x i=>match x.ev e with
   | .ba vs=>i<vs.length/\K (vs.getD i .top) O
   |_=>False
 | .ef x=>match x.ev e with
   | .ct y f=>K (.ct y f) O
   | .fn f a6=>K (.fn f a6) O
   | .ptr n len i f=>match O[n]? with
     |some (.live _ _ xs)=>xs.length=len/\K (.ptr n len i f) O
     |_=>False
   |_=>False
 | .rK f a6=>K (.fn f (a6.map (aI.ev e))) O
 | .call f args=>∃res O',hD P f (args.map (aI.ev e)) O res O'/\K res O'
 | .eu x args=>match x.ev e with
   | .fn f a6=>∃res O',hD P f (args.map (aI.ev e)++a6) O res O'/\K res O'
   |_=>False
 | .mG f args=>∃res,AV.ad (args.map λ x=>iF O (x.ev e))=true/\a7 P f (args.map λ x=>iF O (x.ev e)) res/\K res (vW O (args.map (aI.ev e)) res)
 | .jD x args=>match x.ev e with
   | .fn f a6=>∃res,AV.ad ((args.map λ x=>iF O (x.ev e))++a6)=true/\a7 P f ((args.map λ x=>iF O (x.ev e))++a6) res/\K res (vW O (args.map (aI.ev e)) res)
   |_=>False
 | .k7 f args=>∃res,AV.ad (args.map (aI.ev e))=true/\a7 P f (args.map (aI.ev e)) res/\K res O
 | .lT f args=>∃res,res.flat=true/\AV.ad (args.map λ x=>iF O (x.ev e))=true/\a7 P f (args.map λ x=>iF O (x.ev e)) res/\K res O
 | .eV _ _ _ f args=>∃res ob,AV.ad (args.map (aI.ev e))=true/\hD P f (args.map (aI.ev e)) [] res [ob]/\K (res.bU λ n=>O.length+n) (O++ [ob.bU λ n=>O.length+n])
 | .bp _ f args=>∃res O',hD P f (args.map (aI.ev e)) O res O'/\K res O'
 | .jC _ f args=>∃n a0 ob res ob',args.map (aI.ev e)=a0.map (AV.bU λ _=>n)/\a0.all AV.one=true/\(args.flatMap λ x=>refs (x.ev e))= [n]/\O[n]? =some ob/\ob.ad=true/\res.ag=true/\ob'.ad=true/\hD P f a0 [ob] res [ob']/\K res (O.set n ob')
 | .xF=>K (.own O.length) (O++ [.dc (.mp [])])
 | .aiS ok d z m k=>match m.ev e,k.ev e with
   | .own n,.v kv=>match O[n]? with
     |some (.dc (.mp es))=>d.ok kv=true/\d.all es=true/\K (match mK kv es 0 with
      |none=>if ok then .ba [z,.v (.bool false)]else z
      |some (_,v)=>if ok then .ba [v,.v (.bool true)]else v) O
     |_=>False
   |_,_=>False
 | .o5 d m k v=>match m.ev e,k.ev e with
   | .own n,.v kv=>match O[n]? with
     |some (.dc (.mp es))=>d.ok kv=true/\d.all es=true/\K (.ba []) (O.set n (.dc (.mp (Go.Ab.o5 kv (v.ev e) es))))
     |_=>False
   |_,_=>False
 | .zt ok z m k=>match m.ev e,k.ev e with
   | .own n,.ptr j 1 0 0=>match O[n]? with
     |some (.dc (.mp es))=>eg O j=true/\iJ O es=true/\K (match gR j es 0 with
      |none=>if ok then .ba [z,.v (.bool false)]else z
      |some (_,v)=>if ok then .ba [v,.v (.bool true)]else v) O
     |_=>False
   |_,_=>False
 | .jY m k v=>match m.ev e,k.ev e with
   | .own n,.ptr j 1 0 0=>match O[n]? with
     |some (.dc (.mp es))=>eg O j=true/\iJ O es=true/\K (.ba []) (O.set n (.dc (.mp (Go.Ab.jY j (v.ev e) es))))
     |_=>False
   |_,_=>False
 | .zR x=>match x.ev e with
   | .v (.string s)=>K (.own O.length) (O++ [.dc (.it s 0)])
   |_=>False
 | .zU x=>match x.ev e with
   | .own n=>match O[n]? with
     |some (.dc (.it s pos))=>(pos<s.size->K (.ba [.v (.bool true),.v (.int .i64 pos),.v (.int .i32 (Utf8.decode s pos).1)]) (O.set n (.dc (.it s (pos+(Utf8.decode s pos).2)))))/\(¬pos<s.size->K (.ba [.v (.bool false)]) O)
     |_=>False
   |_=>False
 | .s2b t x=>match x.ev e with
   | .v (.string s)=>s.size<=maxLen/\K (.row O.length s.size) (O++ [.live t 1 (s.data.toList.map λ c=> .v (.int .u8 c.toNat))])
   |_=>False
 | .xI t x=>match x.ev e with
   | .row n len=>match O[n]? with
     |some (.live t' s xs)=>t'=t/\s=1/\xs.length=len/\K (.row n len) O
     |_=>False
   |_=>False
 | .vt neg x=>match x.ev e with
   | .v (.pointer none)=>K (.v (.bool (neg !=true))) O
   | .ptr n len _ _=>match O[n]? with
     |some (.live _ _ xs)=>xs.length=len/\K (.v (.bool (neg !=false))) O
     |_=>False
   |_=>False
 | .peq neg x y=>match x.ev e,y.ev e with
   | .ptr n 1 0 0,.ptr m 1 0 0=>eg O n=true/\eg O m=true/\K (.v (.bool (neg !=decide (n=m)))) O
   |_,_=>False
 | .qM rd f args=>∃res ob,(∀O':List ae,O'.length=O.length->(∀n∈rd,O'[n]? =O[n]?)->hD P f (args.map (aI.ev e)) O' res (O'++ [ob]))/\K res (O++ [ob])
 | .qN rd f args=>∃res,(∀O':List ae,(∀n∈rd,O'[n]? =O[n]?)->hD P f (args.map (aI.ev e)) O' res O')/\K res O
 | .nn kp f args=>∃res O',hD P f (args.map (aI.ev e)) O res O'/\(∀n∈kp,O'[n]? =O[n]?)/\K res O'
 | .iv x args=>match x.ev e with
   | .fn f a6=>∃res,AV.ad (args.map (aI.ev e)++a6)=true/\a7 P f (args.map (aI.ev e)++a6) res/\K res O
   |_=>False
def aqp:Value->Option AV
 | .bool b=>some (.v (.bool b))
 | .int k n=>some (.v (.int k n))
 | .string s=>some (.v (.string s))
 | .pointer none=>some (.v (.pointer none))
 | .map none=>some (.v (.map none))
 | .nilFunc=>some (.v .nilFunc)
 | .nilIface=>some (.v .nilIface)
 | .slice none 0 0=>some .aw
 |_=>none
def ajW:Value->Option AV
 | .agg cs=>(cs.toList.mapM aqp).map .agg
 | .func (.func f) first captured=>if first.size=0/\captured.size=0 then some (.fn f [])else none
 |x=>aqp x
def bL:Operand->Option aI
 | .tmp t=>some (.t t)
 | .const v=>(ajW v).map .c
 | .func f=>some (.c (.fn f []))
 | .global _=>none
def anm(l:Array Operand):Option (List aI):=l.toList.mapM bL
def mj(P:Program)(t:TypeId):Option (Nat×Nat×AV):=do
 let i ←P.info? t
 let z ←i.zero
 let a ←ajW z
 if a.cells.length=i.size/\0<i.size/\z.cells.size=i.size/\a.storable=true then some (i.size,i.bytes,a)else none
def yX(d:TypeDesc):Bool:=
 match d with
 | .struct _| .array _ _=>true
 |_=>false
def uk(P:Program)(t:TypeId):Option (Option Nat):=do
 let d ←P.underlying t
 let i ←P.info? t
 if yX d=true then(if 0<i.size then some (some i.size)else none)else some none
def oJ(P:Program)(t:TypeId):Option TypeId:=
 match P.underlying t with
 |some (.slice e)=>some e
 |_=>none
def jj:BinOp->Bool
 | .neq=>true
 |_=>false
def adG(P:Program)(op:BinOp)(t:TypeId):Bool:=
 match op,P.underlying t with
 | .eql,some .bool=>true
 | .neq,some .bool=>true
 |_,_=>false
def lZ(op:BinOp):Bool:=
 match op with
 | .eql| .neq=>true
 |_=>false
def apw(P:Program)(t:TypeId):Bool:=
 match P.underlying t with
 |some (.slice _)=>true
 |_=>false
def ahu(P:Program)(t:TypeId):Bool:=
 match P.underlying t with
 |some (.pointer _)=>true
 |_=>false
def uT(P:Program)(t:TypeId):Bool:=
 match P.underlying t with
 |some (.pointer el)=>match P.info? el with
  |some i=>decide (0<i.size)
  |none=>false
 |_=>false
def aht(P:Program)(op:BinOp)(t:TypeId):Bool:=lZ op&&uT P t
def alX(P:Program)(t:TypeId):Bool:=
 match P.underlying t with
 |some (.interface _)=>true
 |_=>false
def zw(P:Program)(t:TypeId):Bool:=
 match P.underlying t with
 |some (.int .u8)=>true
 |_=>false
def isInt(P:Program)(t:TypeId):Bool:=
 match P.underlying t with
 |some (.int _)=>true
 |_=>false
def b8(P:Program)(type:TypeId)(o:Op):Option ew:=
 match o with
 | .move x| .assign x=>do some (.bc (←bL x))
 | .pick c a b=>do some (.pick (←bL c) (←bL a) (←bL b))
 | .alloc t=>do let(s,_,z) ←mj P t;some (.alloc t s z)
 | .box t x=>do let i ←P.info? t;if 0<i.size then some (.box t i.size (←bL x))else none
 | .build t parts=>
   match P.underlying t with
   |some (.struct fs)=>do
    let(_,_,z) ←mj P t
    let _ ←fs.toList.mapM (λ f=>(P.info? f.type).map λ i=>(f.offset,i.size))
    let ps ←parts.toList.mapM λ (i,x)=>do let f ←fs[i]?;let n ←P.info? f.type;some (f.offset,n.size,←bL x)
    some (.build z.cells ps)
   |some (.array _ el)=>if parts.isEmpty then do
     let(_,_,z) ←mj P t
     let _ ←P.info? el
     some (.build z.cells [])
    else none
   |_=>none
 | .buildSlice t len parts=>do
   let e ←oJ P t
   let(s,_,z) ←mj P e
   let ps ←parts.toList.mapM λ (i,x)=>do some (i,←bL x)
   if len*s<=2^24 then some (.buildSlice e s len z ps)else none
 | .load t x=>do some (.load (←uk P t) (←bL x))
 | .store t x y=>do some (.store (←P.info? t).size (←bL x) (←bL y))
 | .nilCheck x=>do some (.ef (←bL x))
 | .binOp op t x y _=>if adG P op t=true then do some (.beq (jj op) (←bL x) (←bL y))else if aht P op t=true then do some (.peq (jj op) (←bL x) (←bL y))else do some (.bin op (←bL x) (←bL y))
 | .unOp op _ x=>do some (.un op (←bL x))
 | .convert src dst x=>match P.underlying src,P.underlying dst with
   |some (.int _),some (.int k)=>do some (.jK k (←bL x))
   |some .string,some (.slice e)=>if zw P e=true then do some (.s2b e (←bL x))else none
   |some (.slice _),some (.slice e)=>if zw P e=true/\src=dst then do some (.xI e (←bL x))else none
   |_,_=>none
 | .fieldAddr t x f=>match P.underlying t with
   |some (.struct fs)=>do
    let g ←fs[f]?
    if 0<(←P.info? g.type).size then some (.bX g.offset (←bL x))else none
   |_=>none
 | .field t x f=>match P.underlying t with
   |some (.struct fs)=>do
    let g ←fs[f]?
    some (.yC g.offset (←uk P g.type) (←bL x))
   |_=>none
 | .indexAddr t x i=>match P.underlying t with
   |some (.array m el)=>do some (.vi m (←P.info? el).size (←bL x) (←bL i))
   |_=>do
    let e ←oJ P t
    some (.fS (←P.info? e).size (←bL x) (←bL i))
 | .index t x i=>match P.underlying t with
   |some .string=>do some (.kU (←bL x) (←bL i))
   |_=>none
 | .slice t x lo hi mx=>
   if mx.isSome then none else
   match P.underlying t with
   |some .string=>do some (.fC (←bL x) (←lo.mapM bL) (←hi.mapM bL))
   |some (.slice e)=>do some (.db (←P.info? e).size (←bL x) (←lo.mapM bL) (←hi.mapM bL))
   |_=>none
 | .makeSlice t l c=>do
   let e ←oJ P t
   let(s,b,z) ←mj P e
   some (.mk e s b z (←bL l) (←bL c))
 | .extract x i=>do some (.ext (←bL x) i)
 | .makeMap _ none=>some .xF
 | .lookup t m k ok=>match P.underlying t with
   |some (.map kt et)=>if uT P kt=true then do
     let(_,_,z) ←mj P et
     some (.zt ok z (←bL m) (←bL k))
    else do
     let d ←KD.of (←P.underlying kt)
     let(_,_,z) ←mj P et
     some (.aiS ok d z (←bL m) (←bL k))
   |_=>none
 | .mapUpdate t m k v=>match P.underlying t with
   |some (.map kt _)=>if uT P kt=true then do some (.jY (←bL m) (←bL k) (←bL v))else do
    let d ←KD.of (←P.underlying kt)
    some (.o5 d (←bL m) (←bL k) (←bL v))
   |_=>none
 | .insert t m k v=>match P.underlying t with
   |some (.map kt _)=>if uT P kt=true then do some (.jY (←bL m) (←bL k) (←bL v))else do
    let d ←KD.of (←P.underlying kt)
    some (.o5 d (←bL m) (←bL k) (←bL v))
   |_=>none
 | .range t x=>match P.underlying t with
   |some .string=>do some (.zR (←bL x))
   |_=>none
 | .next x true=>do some (.zU (←bL x))
 | .makeFunc (.func f) first a6=>if first.isEmpty then do some (.rK f (←anm a6))else none
 |_=>none
def ew.xX:ew->Bool
 | .call _ _| .eu _ _| .mG _ _| .jD _ _| .k7 _ _| .iv _ _| .lT _ _| .eV _ _ _ _ _| .bp _ _ _| .jC _ _ _| .qM _ _ _| .qN _ _ _| .nn _ _ _=>true
 |_=>false
def vg(P:Program)(c:Call):Option ew:=
 match c.callee with
 | .value f=>match bL f,anm c.args with
   |some (.c (.fn f [])),some args=>some (.call f args)
   |some x,some args=>some (.eu x args)
   |_,_=>none
 | .builtin .len=>match c.argTypes.toList,c.args.toList with
   | [t],[x]=>match P.underlying t with
     |some .string=>(bL x).map .kC
     |some (.slice _)=>(bL x).map .bM
     |_=>none
   |_,_=>none
 | .builtin .append=>match c.argTypes.toList,c.args.toList with
   | [t,u],[x,y]=>if t=u then do
       let e ←oJ P t
       let(s,b,_) ←mj P e
       some (.app e s b (←bL x) (←bL y))else none
   |_,_=>none
 |_=>none
def vV(P:Program)(type:TypeId)(o:Op):Option ew:=
 match o with
 | .call c=>vg P c
 |o=>(b8 P type o).bind λ a=>if a.xX=true then none else some a
def isStr(P:Program)(t:TypeId):Bool:=
 match P.underlying t with
 |some .string=>true
 |_=>false
def ajD(P:Program)(o:Op):Option ew:=
 match o with
 | .binOp op t x (.const (.slice none 0 0)) _=>if lZ op=true/\apw P t=true then do some (.pu (.tP (jj op)) [←bL x])else none
 | .binOp op t x (.const (.pointer none)) _=>if lZ op=true/\ahu P t=true then do some (.pu (.oj (jj op)) [←bL x])else none
 | .binOp op t x (.const .nilIface) _=>if lZ op=true/\alX P t=true then do some (.pu (.tQ (jj op)) [←bL x])else none
 | .convert s d x=>do
   let e ←oJ P s
   if zw P e=true/\isStr P d=true then some (.pu .b2s [←bL x])else none
 | .call c=>
   match c.callee,c.argTypes.toList,c.args.toList with
   | .builtin .append,[t,u],[x,y]=>if isStr P u=true then do
     let e ←oJ P t
     let(s,b,_) ←mj P e
     if zw P e=true then some (.j7 e s b (←bL x) (←bL y))else none
     else if isInt P u=true then do
      let e ←oJ P t
      let(s,b,z) ←mj P e
      some (.acy e s b z (←bL x) (←bL y))
     else none
   | .builtin .cap,[t],[x]=>if apw P t=true then do some (.pu .jc [←bL x])else none
   | .builtin .min,[_,_],[x,y]=>do some (.pu .min [←bL x,←bL y])
   | .builtin .max,[_,_],[x,y]=>do some (.pu .max [←bL x,←bL y])
   |_,_,_=>none
 |_=>none
def ajE(P:Program)(type:TypeId)(o:Op):ew:=
 match ajD P o with
 |some a=>a
 |none=>(vV P type o).getD .stuck
def cOp(P:Program)(type:TypeId)(o:Op):Option ew:=some (ajE P type o)
end Go.Ab
namespace Go.Ab
theorem add_lit(b o j:Nat):(⟨b,o,none⟩:Addr).add j=⟨b,o+j,none⟩:=by
 unfold Addr.add;split<;>simp_all
section
variable {I:dv} {L:Nat->Loc} {O:List ae}
theorem yY{v:Value}{a:AV}(h:aqp v=some a):R I L O a v:=by
 unfold aqp at h
 split at h<;>cases h<;>first|exact .v _ rfl|exact .aw
theorem mapM_some{α β:Type}{f:α->Option β}:∀{l:List α} {r:List β},l.mapM f=some r->r.length=l.length/\∀(i:Nat) (x:α) (y:β),l[i]? =some x->r[i]? =some y->f x=some y
 | [],r,h=>by simp at h;subst h;simp
 |a::l,r,h=>by
  simp only[mapM_cons,bind_eq_bind,bind_eq_some_iff,pure_def,Option.some.injEq]at h;obtain⟨b,hb,bs,hbs,rfl⟩:=h;obtain⟨h1,h2⟩:=mapM_some hbs;refine⟨by simp[h1],λ i x y hx hy=> ?_⟩;cases i with
  |zero=>simp at hx hy;subst hx;subst hy;exact hb
  |succ i=>simp at hx hy;exact h2 i x y hx hy
theorem eO{v:Value}{a:AV}(h:ajW v=some a):R I L O a v:=by
 unfold ajW at h
 split at h
 ·rename_i cs;simp only[map_eq_some_iff]at h;obtain⟨as,has,rfl⟩:=h;obtain⟨h1,h2⟩:=mapM_some has;refine .agg _ _ (by simpa using h1) λ i c x hc hx=>yY (h2 i x c (by simpa using hx) hc)
 ·rename_i f first captured
  split at h
  ·rename_i hh;cases h;obtain rfl:first= #[]:=Array.eq_empty_of_size_eq_zero hh.1
   exact .fn _ _ _ (by simp[hh.2]) (by simp)
  ·cases h
 ·exact yY h
theorem an{x:Operand}{ax:aI}(h:bL x=some ax){e:Env}{a:Act}(he:∀t,R I L O (e t) (a.tmps.getD t undef)):R I L O (ax.ev e) (a.eval x):=by
 unfold bL at h
 split at h
 ·cases h;exact he _
 ·simp only[map_eq_some_iff]at h;obtain⟨c,hc,rfl⟩:=h;exact eO hc
 ·cases h;exact .fn _ _ _ rfl (by simp)
 ·cases h
theorem R.cg{a:AV}{x:Value}(h:R I L O a x)(hc:a.cg=true):x.oneCell'=true:=by
 cases h<;>first|rfl|(simp[AV.cg]at hc;done)|assumption|exact gr.val_one _ _
theorem Value.ajx{x:Value}(h:x.oneCell'=true):x.cells= #[x]:=by
 cases x<;>first|rfl|(simp[Value.oneCell']at h;done)
theorem AV.gl{a:AV}(h:a.cg=true):a.cells= [a]:=by
 cases a<;>first|rfl|(simp[AV.cg]at h;done)
theorem AV.uu{a:AV}(h:a.isAgg=true):a= .agg a.cells:=by
 cases a<;>first|rfl|(simp[AV.isAgg]at h;done)
theorem R.cells{a:AV}{x:Value}(h:R I L O a x)(hc:(a.cg||a.isAgg)=true):
  a.cells.length=x.cells.size/\∀(j:Nat) c,a.cells[j]? =some c->∃y,x.cells[j]? =some y/\R I L O c y:=by
 by_cases h1:a.cg=true
 ·have h2:=h.cg h1;rw[AV.gl h1,Value.ajx h2];refine⟨rfl,λ j c hj=> ?_⟩;cases j with
  |zero=>simp at hj;subst hj;exact⟨x,rfl,h⟩
  |succ j=>simp at hj
 ·have h3:a.isAgg=true:=by simpa [h1]using hc
  rw[AV.uu h3]at h;cases h with
  |agg _ vs hl hr=>
   refine⟨hl,λ j c hj=> ?_⟩;have aF:j<vs.size:=by rw[←hl];exact(List.getElem?_eq_some_iff.1 hj).1
   have hy:vs[j]? =some vs[j]:=by simp[aF]
   exact⟨vs[j],hy,hr j c _ hj hy⟩
theorem lQ{a:AV}(h:a.storable=true):(a.cg||a.isAgg)=true:=by
 cases a<;>first|rfl|(simp[AV.storable,AV.cells,AV.cg]at h;done)
theorem R.pS{a:AV}{x:Value}(h:R I L O a x)(hc:a.storable=true):
  a.cells.length=x.cells.size/\∀(j:Nat) c,a.cells[j]? =some c->∃y,x.cells[j]? =some y/\y.oneCell'=true/\R I L O c y:=by
 obtain⟨h1,h2⟩:=h.cells (lQ hc);refine⟨h1,λ j c hj=> ?_⟩;obtain⟨y,hy,hr⟩:=h2 j c hj;exact⟨y,hy,hr.cg (List.all_eq_true.1 hc c (mem_of_getElem? hj)),hr⟩
theorem R.aup{a:AV}{x:Value}(h:R I L O a x)(hc:a.storable=true):∀v∈x.cells.toList,v.oneCell'=true:=by
 obtain⟨h1,h2⟩:=h.pS hc;intro v hv;obtain⟨j,hj⟩:=List.getElem?_of_mem hv;have hj':x.cells[j]? =some v:=by simpa using hj
 have aF:j<a.cells.length:=by rw[h1];exact(Array.getElem?_eq_some_iff.1 hj').1
 obtain⟨y,hy,ho,_⟩:=h2 j a.cells[j] (by simp[aF]);rw[hj']at hy;cases hy;exact ho
end
theorem R.ep{I:dv}{L:Nat->Loc}{O:List ae}{n len e s:Nat}{xs:List AV}{x:Value}(h:R I L O (.row n len) x)(hn:O[n]? =some (.live e s xs))(hl:xs.length=len):
  x= .slice (some ⟨(L n).bh,0,none⟩) len (L n).cap:=by
 cases h with
 |cq=>rfl
 |fY _ _ _ lz=>rw[hn]at lz;cases lz
 |eP _ _ _ _ _ hd=>have:=hd _ _ _ hn;omega
theorem R.kf{I:dv}{L:Nat->Loc}{O:List ae}{n len e s:Nat}{x:Value}(h:R I L O (.row n len) x)(hn:O[n]? =some (.nil e s)):x= .slice none 0 0/\len=0:=by
 cases h with
 |cq _ _ _ _ _ lz=>rw[hn]at lz;cases lz
 |fY=>exact⟨rfl,rfl⟩
 |eP _ _ _ _ hd=>exact(hd _ _ hn).elim
theorem R.gQ{I:dv}{L:Nat->Loc}{O:List ae}{n len i f e s:Nat}{xs:List AV}{x:Value}(h:R I L O (.ptr n len i f) x)(hn:O[n]? =some (.live e s xs))(hl:xs.length=len):
  x= .pointer (some ⟨(L n).bh,i*s+f,none⟩):=by
 cases h with
 |dU _ _ _ _ _ _ _ lz=>rw[hn]at lz;cases lz;rfl
 |fZ _ _ _ _ _ _ _ hd=>have:=hd _ _ _ hn;omega
theorem qc{P:Program}{t:TypeId}{d:TypeDesc}(hd:P.underlying t=some d)(w:World):
  (isAgg t).run P w= .ok (yX d) w:=by
 cases d<;>simp[isAgg,run_underlying hd,yX]
def sF(n:Option Nat)(bA:Nat->Value):Value:=
 match n with
 |none=>bA 0
 |some m=> .agg ((List.range m).map bA).toArray
theorem ru{P:Program}{t:TypeId}{n:Option Nat}(hn:uk P t=some n)(b o:Nat)(bA:Nat->Value)(w:World)
  (hc:∀j,j<n.getD 1->w.cell? ⟨b,o+j,none⟩=some (bA j)):
  (Instr.loadAt t (.pointer (some ⟨b,o,none⟩))).run P w= .ok (sF n bA) w:=by
 unfold uk at hn;simp only[bind_eq_bind,bind_eq_some_iff]at hn;obtain⟨d,hd,i,hi,hn⟩:=hn;cases n with
 |none=>
  have hf:yX d=false:=by
   by_cases h:yX d=true
   ·rw[if_pos h]at hn;split at hn<;>simp at hn
   ·simpa using h
  have h0:=hc 0 (by simp);simp only[add_zero]at h0;simp[Instr.loadAt,Instr.sureAddr,loadVar,qc hd,hf,run_load,h0,sF]
 |some m=>
  have hf:yX d=true/\i.size=m:=by
   by_cases h:yX d=true
   ·rw[if_pos h]at hn;split at hn<;>simp at hn;exact⟨h,hn⟩
   ·rw[if_neg h]at hn;simp at hn
  have hl:=run_loadCells (P:=P) w ⟨b,o,none⟩ m bA (λ j hj=>by rw[add_lit];exact hc j (by simpa using hj));simp[Instr.loadAt,Instr.sureAddr,loadVar,qc hd,hf.1,sizeOf,typeInfo,hi,hf.2,hl,sF]
theorem mL{I:dv}{L:Nat->Loc}{O:List ae}{x:AV}{n:Option Nat}{f:Nat}{bA:Nat->Value}(hf:f+n.getD 1<=x.cells.length)
  (hr:∀(j:Nat) c,x.cells[f+j]? =some c->j<n.getD 1->R I L O c (bA j)):
  R I L O (dG n x f) (sF n bA):=by
 cases n with
 |none=>
  simp only[Option.getD_none]at hf;have h1:x.cells[f]? =some x.cells[f]:=by simp[show f<x.cells.length by omega]
  have:=hr 0 _ (by rw[add_zero];exact h1) (by simp);simpa [dG,List.getD,h1,sF]using this
 |some m=>
  simp only[Option.getD_some]at hf hr;simp only[dG,sF]
  split
  ·rename_i hh;obtain⟨rfl,ha,hl⟩:=hh;rw[AV.uu ha];refine .agg _ _ (by simp[hl]) λ i c v hc hv=> ?_
   have aF:i<m:=by rw[←hl];exact(List.getElem?_eq_some_iff.1 hc).1
   simp[aF]at hv;subst hv;exact hr i c (by simpa using hc) aF
  ·refine .agg _ _ (by simp;omega) λ i c v hc hv=> ?_
   have aF:i<m:=by
    have:=(List.getElem?_eq_some_iff.1 hc).1;simp at this;omega
   simp[aF]at hv;subst hv;rw[getElem?_take,if_pos aF,getElem?_drop]at hc;exact hr i c hc aF
end Go.Ab
namespace Go.Ab
theorem eN{w:World}{b o:Nat}{c:Array Value}{e:TypeId}{f:Nat×Nat}(h:w.heap[b]? =some (.cells c e f)):w.cell? ⟨b,o,none⟩=c[o]? :=by
 simp[World.cell?,h]
theorem aaY.congr{I I':dv}{L L':Nat->Loc}{O O':List ae}{w w':World}{l:Loc}{e s:Nat}{xs:List AV}(h:aaY I L O w l e s xs)
  (hb:w'.heap[l.bh]? =w.heap[l.bh]?) (hr:∀a x,R I L O a x->R I' L' O' a x):aaY I' L' O' w' l e s xs:=by
 obtain⟨c,h1,h2,h3,h4,h5,h6⟩:=h;refine⟨c,by rw[hb];exact h1,h2,h3,h4,h5,λ i x hx=>⟨(h6 i x hx).1,λ j a ha=> ?_⟩⟩;obtain⟨y,hy,ho,o7⟩:=(h6 i x hx).2 j a ha;exact⟨y,hy,ho,hr _ _ o7⟩
theorem Good.refl{I:dv}{L:Nat->Loc}{O:List ae}{w:World}(h:Inv I L O w):Good I L O w I L O w:=
 ⟨h,.refl _ _ _,.refl _ _,λ _ h=> .inl h,λ _ _ _ h=> .inl h⟩
theorem Good.trans{I I' I'':dv}{L L' L'':Nat->Loc}{O O' oY:List ae}{w w' w'':World}(h:Good I L O w I' L' O' w')(k:Good I' L' O' w' I'' L'' oY w''):Good I L O w I'' L'' oY w'':=
 ⟨k.inv,h.ext.trans k.ext,h.pa.trans k.pa h.lb,λ b hb=>by
   rcases k.lb b hb with h1|h1
   ·exact h.lb b h1
   ·exact .inr (le_trans h.pa.size h1),λ b o x hx=>by
   rcases k.iz b o x hx with h1|h1|h1
   ·exact h.iz b o x h1
   ·exact .inr (h.lb b h1)
   ·exact .inr (.inr (le_trans h.pa.size h1))⟩
theorem Good.drawn{I:dv}{L:Nat->Loc}{O:List ae}{w:World}(h:Inv I L O w)(k:Nat):Good I L O w I L O {w with drawn:=k}:=
 ⟨⟨h.j4,h.obj,h.sep,h.dS,h.fix,h.bh,h.ow.aL λ _ _ _=>rfl,h.gh.step (λ _ _ h=>⟨h,rfl⟩) (λ _ _ h=>h) λ _ _=>rfl⟩,.refl _ _ _,⟨rfl,rfl,rfl,le_refl _,λ _ _ _=>rfl⟩,λ _ h=> .inl h,λ _ _ _ h=> .inl h⟩
theorem Inv.put{I:dv}{L:Nat->Loc}{O O':List ae}{w w':World}{n:Nat}{l:Loc}{e s:Nat}{xs:List AV}(h:Inv I L O w)
  (hO:∀k:Nat,O'[k]? =if k=n then some (.live e s xs)else O[k]?) (hlen:O.length<=O'.length)
  (hw:∀b,b<w.heap.size->b≠l.bh->w'.heap[b]? =w.heap[b]?)
  (hos:w'.os=w.os) (al9:w'.tape=w.tape) (as9:w'.output=w.output) (adQ:w.heap.size<=w'.heap.size)
  (hl:w.heap.size<=l.bh∨∃e s xs,O[n]? =some (.live e s xs)/\(L n).bh=l.bh)
  (mr:aaY I L O w' l e s xs)
  (hold:n<O.length->(∃ys,O[n]? =some (.live e s ys)/\ys.length<=xs.length/\(ys.length=xs.length->l=L n))∨(O[n]? =some (.nil e s)/\xs≠[])):
  Good I L O w I (λ k=>if k=n then l else L k) O' w':=by
 have du:Ext I L O I (λ k=>if k=n then l else L k) O':=by
  refine⟨λ _ _ _ h=>h,hlen,λ k hk e' s' gZ hx=> ?_,λ k hk e' s' hx=> ?_,λ k hk a hx=> ?_,λ k hk a hx=> ?_⟩;rotate_left 2
  ·rw[hO]at hx;by_cases eH:k=n
   ·rw[if_pos eH]at hx;cases hx
   ·rw[if_neg eH]at hx;exact⟨⟨a,hx⟩,by simp only[if_neg eH]⟩
  ·rw[hO]at hx;by_cases eH:k=n
   ·rw[if_pos eH]at hx;cases hx
   ·rw[if_neg eH]at hx;exact⟨⟨a,hx,rfl⟩,by simp only[if_neg eH]⟩
  ·rw[hO]at hx;by_cases eH:k=n
   ·subst eH;rw[if_pos rfl]at hx;cases hx;rcases hold hk with⟨ys,h1,h2,h3⟩|h1
    ·exact .inl ⟨ys,h1,h2,λ he=>by simp[h3 he]⟩
    ·exact .inr h1
   ·rw[if_neg eH]at hx;exact .inl ⟨gZ,hx,le_refl _,λ _=>by simp[eH]⟩
  ·rw[hO]at hx;by_cases eH:k=n
   ·rw[if_pos eH]at hx;cases hx
   ·rwa [if_neg eH]at hx
 have aF:∀{b o x},I b o=some x->b<w.heap.size/\b≠l.bh:=by
  intro b o x hx;have hb:=j5 (h.j4 b o x hx);refine⟨hb,λ he=> ?_⟩;rcases hl with h1|⟨e',s',gZ,h1,h2⟩
  ·omega
  ·have:=h.dS n e' s' gZ o h1;rw[h2,←he,hx]at this;cases this
 have qA:∀{k:Nat} {e' s' gZ},O[k]? =some (.live e' s' gZ)->(L k).bh<w.heap.size:=by
  intro k e' s' gZ hk;obtain⟨c,⟨kR,hc,dE⟩,_⟩:=h.obj k e' s' gZ hk;exact(Array.getElem?_eq_some_iff.1 hc).1
 have bB:∀{k:Nat} {e' s' gZ},O[k]? =some (.live e' s' gZ)->k≠n->(L k).bh≠l.bh:=by
  intro k e' s' gZ hk eH he;rcases hl with h1|⟨e'',s'',au5,h1,h2⟩
  ·have:=qA hk;omega
  ·exact eH (h.sep k n _ _ _ _ _ _ hk h1 (he.trans h2.symm))
 have hbk:∀b,b<w.heap.size->¬LB L O b->w'.heap[b]? =w.heap[b]? :=λ b hb hn=>by
  refine hw b hb λ he=> ?_
  rcases hl with h1|⟨e',s',gZ,h1,h2⟩
  ·omega
  ·exact hn (.inl ⟨n,e',s',gZ,h1,h2.trans he.symm⟩)
 have how:Own I (λ k=>if k=n then l else L k) O' w':=by
  refine h.ow.step (λ k a hk=> ?_) (λ b o v hv=> .inl ⟨o,v,hv⟩) (λ k e' s' gZ hk=> ?_) λ b hb hn=> ?_
  ·rw[hO]at hk;by_cases eH:k=n
   ·rw[if_pos eH]at hk;cases hk
   ·rw[if_neg eH]at hk;exact⟨hk,if_neg eH⟩
  ·by_cases eH:k=n
   ·subst eH;simp only[if_true];rcases hl with h1|⟨e',s',gZ,h1,h2⟩
    ·exact .inr h1
    ·exact .inl ⟨k,e',s',gZ,h1,h2⟩
   ·rw[hO,if_neg eH]at hk;simp only[if_neg eH];exact .inl ⟨k,e',s',gZ,hk,rfl⟩
  ·refine hw b hb λ he=> ?_
   rcases hl with h1|⟨e',s',gZ,h1,h2⟩
   ·omega
   ·exact hn ⟨n,e',s',gZ,h1,h2.trans he.symm⟩
 have hgh:Gh I (λ k=>if k=n then l else L k) O' w':=by
  refine h.gh.step (λ k g hk=> ?_) (λ a x hr=>hr.mono du) λ b hb=> ?_
  ·rw[hO]at hk;by_cases eH:k=n
   ·rw[if_pos eH]at hk;cases hk
   ·rw[if_neg eH]at hk;exact⟨hk,by simp only[if_neg eH]⟩
  ·refine hw b hb.1 λ he=> ?_
   rcases hl with h1|⟨e',s',gZ,h1,h2⟩
   ·have:=hb.1;omega
   ·obtain⟨c,⟨kR,hc,dE⟩,_⟩:=h.obj n e' s' gZ h1;rw[h2,←he]at hc;exact hb.2 _ _ _ hc
 refine⟨⟨?_,?_,?_,?_,h.fix,h.tb hbk (λ _ _ _ h=>h),how,hgh⟩,du,⟨hos,al9,as9,adQ,?_⟩,?_,λ _ _ _ h=> .inl h⟩
 ·intro b o x hx;obtain⟨h1,h2⟩:=aF hx;rw[←h.j4 b o x hx];exact World.cell?_of_block (a:=⟨b,o,none⟩) (hw b h1 h2)
 ·intro k e' s' gZ hk;rw[hO]at hk;by_cases eH:k=n
  ·subst eH;rw[if_pos rfl]at hk;cases hk;simp only[if_true];exact mr.congr rfl λ a x=>R.mono du
  ·rw[if_neg eH]at hk;simp only[if_neg eH];exact(h.obj k e' s' gZ hk).congr (hw _ (qA hk) (bB hk eH)) λ a x=>R.mono du
 ·intro k m e1 s1 xs1 e2 s2 xs2 hk hm hb;rw[hO]at hk hm;by_cases eH:k=n<;>by_cases oo:m=n
  ·omega
  ·subst eH;simp only[if_true,if_neg oo]at hb hm;exact(bB hm oo hb.symm).elim
  ·subst oo;simp only[if_true,if_neg eH]at hb hk;exact(bB hk eH hb).elim
  ·simp only[if_neg eH,if_neg oo]at hb hk hm;exact h.sep k m _ _ _ _ _ _ hk hm hb
 ·intro k e1 s1 xs1 o hk;rw[hO]at hk;by_cases eH:k=n
  ·subst eH;simp only[if_true];cases hx:I l.bh o with
   |none=>rfl
   |some x=>exact((aF hx).2 rfl).elim
  ·simp only[if_neg eH]at hk⊢;exact h.dS k _ _ _ o hk
 ·intro b hb hn;refine hw b hb λ he=> ?_
  rcases hl with h1|⟨e',s',gZ,h1,h2⟩
  ·omega
  ·exact hn (.inl ⟨n,e',s',gZ,h1,h2.trans he.symm⟩)
 ·rintro b (⟨k,e',s',gZ,hk,hb⟩|⟨k,a,o,v,hk,hb⟩|⟨k,g,hk,hb⟩)
  rotate_right
  ·rw[hO]at hk;by_cases eH:k=n
   ·rw[if_pos eH]at hk;cases hk
   ·rw[if_neg eH]at hk;simp only[if_neg eH]at hb;exact .inl (.inr (.inr ⟨k,g,hk,hb⟩))
  rotate_left
  ·rw[hO]at hk;by_cases eH:k=n
   ·rw[if_pos eH]at hk;cases hk
   ·rw[if_neg eH]at hk;simp only[if_neg eH]at hb;exact .inl (.inr (.inl ⟨k,a,o,v,hk,hb⟩))
  rw[hO]at hk;by_cases eH:k=n
  ·subst eH;simp only[if_true]at hb;subst hb;rcases hl with h1|⟨e',s',gZ,h1,h2⟩
   ·exact .inr h1
   ·exact .inl (.inl ⟨k,e',s',gZ,h1,h2⟩)
  ·simp only[if_neg eH]at hk hb;exact .inl (.inl ⟨k,e',s',gZ,hk,hb⟩)
theorem Inv.av8{I:dv}{L:Nat->Loc}{O:List ae}{w:World}(h:Inv I L O w){e s:Nat}{xs:List AV}(c:Array Value)(cap:Nat){m:Nat×Nat}(hmk:Mk m c.size s)
  (hc:c.size=cap*s) (hx:xs.length<=cap) (hm:cap<=maxLen) (hs:0<s)
  (hr:∀(i:Nat) x,xs[i]? =some x->x.cells.length=s/\∀(j:Nat) a,x.cells[j]? =some a->∃y,c[i*s+j]? =some y/\y.oneCell'=true/\R I L O a y):
  Good I L O w I (λ k=>if k=O.length then Loc.at w.heap.size (cap)else L k) (O++ [.live e s xs]) (w.alloc (.cells c e m)):=by
 refine h.put (n:=O.length) (l:=Loc.at w.heap.size (cap)) (e:=e) (s:=s) (xs:=xs) (w':=w.alloc (.cells c e m)) ?_ (by simp) ?_ rfl rfl rfl (by simp) (.inl (le_refl _)) ?_ (by omega)
 ·intro k;by_cases hk:k=O.length
  ·subst hk;simp
  ·rw[if_neg hk,List.getElem?_append]
   split
   ·rfl
   ·rw[getElem?_eq_none (by simp;omega),getElem?_eq_none (by omega)]
 ·intro b hb _;exact heap_alloc_old w _ b hb
 ·exact⟨c,⟨_,heap_alloc_new w _,hmk⟩,hc,hx,hm,hs,hr⟩
theorem Inv.new{I:dv}{L:Nat->Loc}{O:List ae}{w:World}(h:Inv I L O w){e s:Nat}{xs:List AV}(c:Array Value)(cap:Nat)
 (hc:c.size=cap*s) (hx:xs.length<=cap) (hm:cap<=maxLen) (hs:0<s)
 (hr:∀(i:Nat) x,xs[i]? =some x->x.cells.length=s/\∀(j:Nat) a,x.cells[j]? =some a->∃y,c[i*s+j]? =some y/\y.oneCell'=true/\R I L O a y):
 Good I L O w I (λ k=>if k=O.length then Loc.at w.heap.size (cap)else L k) (O++ [.live e s xs]) (w.alloc (.cells c e)):=h.av8 c cap (.inl rfl) hc hx hm hs hr
end Go.Ab
namespace Go.Ab
def fx(P:Program)(I:dv)(L:Nat->Loc)(O:List ae)(w:World)(s:Sem Next)(K:AV->List ae->Prop):Prop:=
 ∃x O' y I' L' w',K x O'/\Good I L O w I' L' O' w'/\R I' L' O' x y/\(s.run P w= .ok (.value y) w'∨(s.run P w= .ok .skip w'/\y=undef))
section
variable {P:Program} {I:dv} {L:Nat->Loc} {O:List ae} {w:World} {K:AV->List ae->Prop}
theorem fx.same(h:Inv I L O w){s:Sem Next}{x:AV}{y:Value}(hk:K x O)(hr:R I L O x y)(hs:s.run P w= .ok (.value y) w):fx P I L O w s K:=
 ⟨x,O,y,I,L,w,hk,.refl h,hr,.inl hs⟩
theorem R.bool{x:Value}{b:Bool}(h:R I L O (.v (.bool b)) x):x= .bool b:=by cases h;rfl
theorem R.exact{x y:Value}(h:R I L O (.v y) x):x=y:=by cases h;rfl
theorem akD{op:BinOp}{x y z:Value}(h:kQ op x y=some z)(t:TypeId)(a b:Operand)(w:World):
  (do eqGuard op t a b x y;binOp op t x y:Sem Value).run P w= .ok z w/\z.oneCell'=true:=by
 unfold kQ at h
 split at h
 ·rename_i k a' k' b'
  split at h
  ·cases op<;>simp[BinOp.eC]at* <;>simp only[ag8]at h<;>split at h<;>simp at h<;>rename_i hh<;>subst h<;>
    simp[eqGuard,binOp,Op.shift,Int.not_lt.2 hh,Value.oneCell']
  ·split at h
   ·rename_i hk;subst hk;cases op<;>simp[BinOp.eC]at* <;>simp only[qz]at h
    case quo=>split at h<;>simp at h;rename_i hh;subst h;simp[eqGuard,binOp,Op.intDiv,hh,Value.oneCell']
    case rem=>split at h<;>simp at h;rename_i hh;subst h;simp[eqGuard,binOp,Op.intDiv,hh,Value.oneCell']
    all_goals (simp at h)
    all_goals (subst h;simp[eqGuard,binOp,Op.intArith,Op.intBits,Op.intCmp,Value.oneCell'])
   ·cases h
 ·rename_i a' b';cases op<;>simp only[zT]at h
  case add=>
   split at h<;>simp at h
   rename_i hh;subst h;have h2:¬((a'.size:Int)+(b'.size:Int)>IntKind.i64.max):=by have:=hh;push_cast at this;omega
   simp[eqGuard,binOp,Op.stringOp,Value.oneCell'];have h3:IntKind.i64.max=9223372036854775807:=by decide
   omega
  all_goals first
   |(simp at h;done)
   |(simp only[Option.some.injEq]at h;subst h;simp[eqGuard,binOp,Op.stringOp,Value.oneCell'])
 ·cases h
theorem aoh{op:UnOp}{x z:Value}(h:sun op x=some z)(w:World):(Op.unary op x).run P w= .ok z w/\z.oneCell'=true:=by
 unfold sun at h
 split at h<;>cases h<;>simp[Op.unary,Op.intArith,Value.oneCell']
end
end Go.Ab
namespace Go.Ab
theorem yB(vs:List (Value×Nat))(off:Nat)(cells:Array Value):
  (vs.foldl (λ cs (p:Value×Nat)=>cs.setIfInBounds (off+p.2) p.1) cells).size=cells.size:=by
 induction vs generalizing cells with
 |nil=>rfl
 |cons a l ih=>simp[ih]
theorem zK(vs:List Value)(off:Nat):∀(k:Nat) (cells:Array Value),off+k+vs.length<=cells.size->∀j:Nat,
  ((vs.zipIdx k).foldl (λ cs (p:Value×Nat)=>cs.setIfInBounds (off+p.2) p.1) cells)[j]? =if off+k<=j/\j<off+k+vs.length then vs[j- (off+k)]? else cells[j]? :=by
 induction vs with
 |nil=>
  intro k cells h j;rw[if_neg (by simp only[List.length_nil];omega)];rfl
 |cons a l ih=>
  intro k cells h j;simp only[List.zipIdx_cons,List.foldl_cons,List.length_cons]at h⊢;rw[ih (k+1) _ (by simp;omega)];by_cases h1:off+(k+1)<=j/\j<off+(k+1)+l.length
  ·rw[if_pos h1,if_pos (by omega)];rw[show j- (off+k)=(j- (off+(k+1)))+1 by omega,List.getElem?_cons_succ]
  ·rw[if_neg h1,Array.getElem?_setIfInBounds];by_cases h2:off+k=j
   ·subst h2;rw[if_pos rfl,if_pos (by omega),if_pos (by omega)];simp
   ·rw[if_neg h2,if_neg (by omega)]
def lay(off:Nat)(vs:List Value)(cells:Array Value):Array Value:=(vs.zipIdx.foldl (λ cs (p:Value×Nat)=>cs.setIfInBounds (off+p.2) p.1) cells)
theorem xP(off:Nat)(vs:List Value)(cells:Array Value):(lay off vs cells).size=cells.size:=yB _ _ _
theorem abL{off:Nat}{vs:List Value}{cells:Array Value}(h:off+vs.length<=cells.size)(j:Nat):
  (lay off vs cells)[j]? =if off<=j/\j<off+vs.length then vs[j- off]? else cells[j]? :=by
 have:=zK vs off 0 cells (by omega) j;simpa [lay]using this
theorem aaK{place:Nat->Option (Nat×Nat)}{cells:Array Value}{i off size:Nat}{v:Value}{rest:List (Nat×Value)}(hp:place i=some (off,size))(hs:v.cells.size=size)(hf:off+size<=cells.size):
  Instr.fill place cells ((i,v)::rest)=Instr.fill place (lay off v.cells.toList cells) rest:=by
 rw[Instr.fill,hp];simp only[hs,ne_eq,not_true_eq_false,decide_false,Bool.false_or,decide_eq_true_eq];rw[if_neg (by omega)];congr 1;rw[lay,←Array.foldl_toList,Array.toList_zipIdx]
section
variable {P:Program} {I:dv} {L:Nat->Loc} {O:List ae} {w:World}
def RCs(I:dv)(L:Nat->Loc)(O:List ae)(cs:List AV)(vs:Array Value):Prop:=
 cs.length=vs.size/\∀(j:Nat) c y,cs[j]? =some c->vs[j]? =some y->R I L O c y
theorem RCs.lay{cs:List AV}{vs:Array Value}(h:RCs I L O cs vs){x:AV}{y:Value}(hr:R I L O x y)(hx:(x.cg||x.isAgg)=true){off:Nat}(hf:off+x.cells.length<=cs.length):
  RCs I L O (cs.take off++x.cells++cs.drop (off+x.cells.length)) (lay off y.cells.toList vs)/\y.cells.size=x.cells.length:=by
 obtain⟨h1,h2⟩:=hr.cells hx;have hlen:y.cells.toList.length=x.cells.length:=by simp[h1]
 refine⟨⟨by rw[xP];simp[←h.1];omega,λ j c z hc hz=> ?_⟩,h1.symm⟩;rw[abL (by rw[hlen,←h.1];exact hf),hlen]at hz;by_cases hj:off<=j/\j<off+x.cells.length
 ·rw[if_pos hj]at hz
  have fT:x.cells[j- off]? =some c:=by
   rw[append_assoc,getElem?_append_right (by simp;omega),getElem?_append_left (by simp;omega)]at hc;rwa [length_take,min_eq_left (by omega)]at hc
  obtain⟨y',lf,o7⟩:=h2 _ c fT;rw[Array.getElem?_toList,lf]at hz;cases hz;exact o7
 ·rw[if_neg hj]at hz
  have fT:cs[j]? =some c:=by
   by_cases aF:j<off
   ·rwa [append_assoc,getElem?_append_left (by simp;omega),getElem?_take,if_pos aF]at hc
   ·rw[getElem?_append_right (by simp;omega),getElem?_drop]at hc;rw[←hc];congr 1;simp;omega
  exact h.2 j c z fT hz
end
end Go.Ab
namespace Go.Ab
section
variable {P:Program} {I:dv} {L:Nat->Loc} {O:List ae} {w:World} {K:AV->List ae->Prop} {e:Env} {a:Act}
theorem ve{xs:List Operand}{as:List aI}(h:xs.mapM bL=some as)(he:∀t,R I L O (e t) (a.tmps.getD t undef)):
  RL I L O (as.map (aI.ev e)) (xs.map a.eval).toArray:=by
 obtain⟨h1,h2⟩:=mapM_some h;refine⟨by simp[h1],λ i c x hc hx=> ?_⟩;simp only[List.getElem?_map,map_eq_some_iff]at hc;obtain⟨o,ho,rfl⟩:=hc;simp only[getElem?_toArray,List.getElem?_map,map_eq_some_iff]at hx;obtain⟨q,hq,rfl⟩:=hx;exact an (h2 i q o hq ho) he
theorem e8{t s b:Nat}{z:AV}(h:mj P t=some (s,b,z)):
  ∃i z0,P.info? t=some i/\i.zero=some z0/\ajW z0=some z/\i.size=s/\i.bytes=b/\z.cells.length=s/\0<s/\z0.cells.size=s/\z.storable=true:=by
 unfold mj at h;simp only[bind_eq_bind,bind_eq_some_iff]at h;obtain⟨i,hi,z0,hz,a,ha,h⟩:=h
 split at h<;>simp at h
 rename_i hh;obtain⟨rfl,rfl,rfl⟩:=h;exact⟨i,z0,hi,hz,ha,rfl,rfl,hh.1,hh.2.1,hh.2.2.1,hh.2.2.2⟩
theorem Inv.box(hi:Inv I L O w){x:AV}{y:Value}(t:Nat){s:Nat}(hr:R I L O x y)(hs:x.storable=true)(hl:x.cells.length=s)(h0:0<s):
  Good I L O w I (λ k=>if k=O.length then Loc.at w.heap.size (1)else L k) (O++ [.live t s [x]]) (w.alloc (.cells y.cells t))/\
  R I (λ k=>if k=O.length then Loc.at w.heap.size (1)else L k) (O++ [.live t s [x]]) (.ptr O.length 1 0 0) (.pointer (some ⟨w.heap.size,0,none⟩)):=by
 obtain⟨h1,h2⟩:=hr.pS hs;refine⟨hi.new y.cells 1 (by omega) (by simp) (by simp[maxLen]) h0 λ i z hz=> ?_,?_⟩
 ·cases i with
  |zero=>
   simp at hz;subst hz;exact⟨hl,λ j c hj=>by simpa using h2 j c hj⟩
  |succ i=>simp at hz
 ·have:=R.dU (I:=I) (L:=λ k=>if k=O.length then Loc.at w.heap.size (1)else L k) (O:=O++ [.live t s [x]]) O.length 1 0 0 t s [x] (by simp) rfl;simpa using this
theorem s9{fs:Array Field}(he:∀t,R I L O (e t) (a.tmps.getD t undef)){M:AV->Prop}:
  ∀(parts:List (Nat×Operand)) (ps:List (Nat×Nat×aI)) (z:List AV) (vs:Array Value),RCs I L O z vs->
  (parts.mapM λ (p:Nat×Operand)=>do let f ←fs[p.1]?;let n ←P.info? f.type;some (f.offset,n.size,←bL p.2))=some ps->
  jd e z ps M->∃zs ng,M (.agg zs)/\RCs I L O zs ng/\
   ∀pl:Nat->Option (Nat×Nat),(∀i f n,fs[i]? =some f->P.info? f.type=some n->pl i=some (f.offset,n.size))->
    Instr.fill pl vs (parts.map λ (p:Nat×Operand)=>(p.1,a.eval p.2))=some ng
 | [],ps,z,vs,hz,hp,hk=>by
   simp at hp;subst hp;exact⟨z,vs,hk,hz,λ pl _=>rfl⟩
 |(i,x)::parts,ps,z,vs,hz,hp,hk=>by
  simp only[mapM_cons,bind_eq_bind,pure_def,bind_eq_some_iff,Option.some.injEq]at hp;obtain⟨q,⟨f,hf,n,hn,ax,hx,rfl⟩,qs,hqs,rfl⟩:=hp;obtain⟨h1,h2,h3,h4⟩:=hk;have hr:=an hx he;obtain⟨hz',sd⟩:=hz.lay hr h2 (off:=f.offset) (by omega);rw[h1]at hz';obtain⟨zs,ng,m1,m2,m3⟩:=s9 he parts qs _ _ hz' hqs h4;refine⟨zs,ng,m1,m2,λ pl hpl=> ?_⟩;rw[List.map_cons,aaK (hpl i f n hf hn) (sd.trans h1) (by rw[←hz.1];omega)];exact m3 pl hpl
end
end Go.Ab
namespace Go.Ab
def fm(I:dv)(L:Nat->Loc)(O:List ae)(s:Nat)(xs:List AV)(c:Array Value):Prop:=
 ∀(i:Nat) x,xs[i]? =some x->x.cells.length=s/\∀(j:Nat) a,x.cells[j]? =some a->∃y,c[i*s+j]? =some y/\y.oneCell'=true/\R I L O a y
theorem ab9{i j s n:Nat}(hi:i<n)(hj:j<s):i*s+j<n*s:=by
 calc i*s+j<i*s+s:=by omega
  _=(i+1)*s:=by rw[add_mul,Nat.one_mul]
  _<=n*s:=mul_le_mul_right s hi
theorem al1{i i' j s:Nat}(hj:j<s)(h:i≠i'):¬(i'*s<=i*s+j/\i*s+j<i'*s+s):=by
 intro⟨h1,h2⟩;rcases Nat.lt_or_gt_of_ne h with h3|h3
 ·have:=mul_le_mul_right s (show i+1<=i' from h3);rw[add_mul]at this;omega
 ·have:=mul_le_mul_right s (show i'+1<=i from h3);rw[add_mul]at this;omega
section
variable {P:Program} {I:dv} {L:Nat->Loc} {O:List ae} {w:World} {K:AV->List ae->Prop} {e:Env} {a:Act}
theorem fm.made{z:AV}{z0:Value}{s n cap:Nat}(hz:R I L O z z0)(hs:z.storable=true)(hl:z.cells.length=s)(h0:0<s)(hn:n<=cap):
  fm I L O s (List.replicate n z) ((Array.range (cap*s)).map (z0.cells[·%z0.cells.size]!)):=by
 obtain⟨h1,h2⟩:=hz.pS hs;intro i x hx;rw[List.getElem?_replicate]at hx
 split at hx<;>simp at hx
 rename_i hi;subst hx;refine⟨hl,λ j c hj=> ?_⟩;obtain⟨y,hy,ho,hr⟩:=h2 j c hj;have hjs:j<s:=by rw[←hl];exact(List.getElem?_eq_some_iff.1 hj).1
 have aF:i*s+j<cap*s:=ab9 (by omega) hjs
 have azL:(i*s+j)%z0.cells.size=j:=by
  rw[←h1,hl,Nat.add_comm,Nat.add_mul_mod_self_right,Nat.mod_eq_of_lt hjs]
 refine⟨y,?_,ho,hr⟩;rw[Array.getElem?_map,Array.getElem?_range];simp only[aF,if_true,map_some,azL];obtain⟨oq,he⟩:=Array.getElem?_eq_some_iff.1 hy;rw[←he,getElem!_pos z0.cells j oq]
theorem fm.lay{xs:List AV}{c:Array Value}{s:Nat}(h:fm I L O s xs c)(hc:xs.length*s<=c.size){x:AV}{y:Value}(hr:R I L O x y)(hs:x.storable=true)(hl:x.cells.length=s){i:Nat}(hi:i<xs.length):
  fm I L O s (xs.set i x) (lay (i*s) y.cells.toList c)/\y.cells.size=s:=by
 obtain⟨h1,h2⟩:=hr.pS hs;have hlen:y.cells.toList.length=s:=by simp;omega
 have mZ:i*s+s<=c.size:=by
  have:=mul_le_mul_right s (show i+1<=xs.length from hi);rw[add_mul]at this;omega
 refine⟨λ k z hz=> ?_,by omega⟩;rw[List.getElem?_set]at hz;by_cases hk:i=k
 ·subst hk;rw[if_pos rfl,if_pos hi]at hz;cases hz;refine⟨hl,λ j d hj=> ?_⟩;obtain⟨v,hv,ho,hrv⟩:=h2 j d hj;have hjs:j<s:=by rw[←hl];exact(List.getElem?_eq_some_iff.1 hj).1
  refine⟨v,?_,ho,hrv⟩;rw[abL (by omega),if_pos (by omega)];simpa using hv
 ·rw[if_neg hk]at hz;obtain⟨h3,h4⟩:=h k z hz;refine⟨h3,λ j d hj=> ?_⟩;obtain⟨v,hv,ho,hrv⟩:=h4 j d hj;have hjs:j<s:=by rw[←h3];exact(List.getElem?_eq_some_iff.1 hj).1
  refine⟨v,?_,ho,hrv⟩;rw[abL (by omega),hlen,if_neg (al1 hjs (λ h=>hk h.symm))];exact hv
theorem rA(he:∀t,R I L O (e t) (a.tmps.getD t undef)){s:Nat}{M:List AV->Prop}:
  ∀(parts:List (Nat×Operand)) (ps:List (Nat×aI)) (xs:List AV) (c:Array Value),fm I L O s xs c->c.size=xs.length*s->
  (parts.mapM λ (p:Nat×Operand)=>do some (p.1,←bL p.2))=some ps->
  mV e s xs ps M->∃gZ c',M gZ/\fm I L O s gZ c'/\gZ.length=xs.length/\c'.size=c.size/\
   Instr.fill (λ i=>some (i*s,s)) c (parts.map λ (p:Nat×Operand)=>(p.1,a.eval p.2))=some c'
 | [],ps,xs,c,hx,hc,hp,hk=>by
   simp at hp;subst hp;exact⟨xs,c,hk,hx,rfl,rfl,rfl⟩
 |(i,x)::parts,ps,xs,c,hx,hc,hp,hk=>by
  simp only[mapM_cons,bind_eq_bind,pure_def,bind_eq_some_iff,Option.some.injEq]at hp;obtain⟨q,⟨ax,hax,rfl⟩,qs,hqs,rfl⟩:=hp;obtain⟨h1,h2,h3,h4⟩:=hk;have hr:=an hax he;obtain⟨hx',sd⟩:=hx.lay (by omega) hr h2 h1 h3
  have mZ:i*s+s<=c.size:=by
   have:=mul_le_mul_right s (show i+1<=xs.length from h3);rw[add_mul]at this;omega
  obtain⟨gZ,c',m1,m2,m3,m4,m5⟩:=rA he parts qs _ _ hx' (by rw[xP];simpa using hc) hqs h4;refine⟨gZ,c',m1,m2,by simpa using m3,by rw[m4,xP],?_⟩;rw[List.map_cons,aaK rfl sd mZ];exact m5
end
end Go.Ab
namespace Go.Ab
section
variable {P:Program} {I:dv} {L:Nat->Loc} {O:List ae} {w:World} {K:AV->List ae->Prop} {e:Env} {a:Act}
theorem aoi{y:AV}{v:Value}(hi:Inv I L O w)(hr:R I L O y v){M:List AV->Prop}(h:rh O y M):
  ∃ys ya c,M ys/\v= .slice ya ys.length c/\∀s,(∀x∈ys,x.cells.length=s)->ys≠[]->∃b o,ya=some ⟨b,o,none⟩/\
   ∀(i:Nat) x,ys[i]? =some x->∀(j:Nat) d,x.cells[j]? =some d->∃u,w.cell? ⟨b,o+(i*s+j),none⟩=some u/\u.oneCell'=true/\R I L O d u:=by
 unfold rh at h
 split at h
 ·cases hr;exact⟨[],none,0,h,rfl,λ s _ h=>(h rfl).elim⟩
 ·rename_i ys;cases hr with
  |lG ya cap=>exact⟨[],ya,cap,h,rfl,λ s _ h=>(h rfl).elim⟩
  |sl _ bh off cap s bA h1 h2 h3 h4 h5=>
   refine⟨ys,_,cap,h,rfl,λ s' hs' bB=>⟨bh,off,rfl,λ i x hx j d hj=> ?_⟩⟩;have hss:s=s':=by rw[←h3 i x hx,hs' x (mem_of_getElem? hx)]
   subst hss;obtain⟨h6,h7⟩:=h4 i x j d hx hj;exact⟨bA i j,by rw[←add_assoc];exact hi.j4 _ _ _ h6,h7,h5 i x j d hx hj⟩
 ·rename_i n len
  split at h
  ·rename_i t s0 xs hn;obtain⟨rfl,h⟩:=h;have hv:=hr.ep hn rfl;subst hv
   ·refine⟨xs,_,_,h,rfl,λ s hs bB=>⟨_,0,rfl,λ i x hx j d hj=> ?_⟩⟩;obtain⟨c,⟨kR,h1,dE⟩,h2,h3,h4,h5,h6⟩:=hi.obj n t s0 xs hn;obtain⟨h7,h8⟩:=h6 i x hx;have hss:s0=s:=by rw[←h7,hs x (mem_of_getElem? hx)]
    subst hss;obtain⟨u,hu,ho,hru⟩:=h8 j d hj;exact⟨u,by rw[zero_add,eN h1];exact hu,ho,hru⟩
  ·rename_i t s0 hn;obtain⟨rfl,h⟩:=h;obtain⟨rfl,_⟩:=hr.kf hn;exact⟨[],none,0,h,rfl,λ s _ h=>(h rfl).elim⟩
  ·exact h.elim
 ·exact h.elim
def dD(w:World)(b o n:Nat):List Value:=(List.range n).map λ k=>(w.cell? ⟨b,o+k,none⟩).getD undef
theorem ah8{k n s:Nat}(h:k<n*s):k/s<n/\k%s<s/\k/s*s+k%s=k:=by
 have hs:0<s:=by rcases Nat.eq_zero_or_pos s with rfl|h0;simp at h;exact h0
 exact⟨(Nat.div_lt_iff_lt_mul hs).2 h,Nat.mod_lt _ hs,by rw[Nat.mul_comm];exact Nat.div_add_mod k s⟩
theorem mJ{ys:List AV}{s b o:Nat}(hs:∀x∈ys,x.cells.length=s)
  (h:∀(i:Nat) x,ys[i]? =some x->∀(j:Nat) d,x.cells[j]? =some d->∃u,w.cell? ⟨b,o+(i*s+j),none⟩=some u/\u.oneCell'=true/\R I L O d u):
  (dD w b o (ys.length*s)).length=ys.length*s/\
  (∀(j:Nat) u,(dD w b o (ys.length*s))[j]? =some u->w.cell? ((⟨b,o,none⟩:Addr).add j)=some u)/\
  (∀u∈dD w b o (ys.length*s),u.oneCell'=true)/\
  fm I L O s ys (dD w b o (ys.length*s)).toArray:=by
 have cz:∀k,k<ys.length*s->∃u,w.cell? ⟨b,o+k,none⟩=some u/\u.oneCell'=true/\(dD w b o (ys.length*s))[k]? =some u:=by
  intro k hk;obtain⟨h1,h2,h3⟩:=ah8 hk;have hx:ys[k/s]? =some ys[k/s]:=by simp[h1]
  have hl:=hs _ (mem_of_getElem? hx);obtain⟨u,hu,ho,_⟩:=h _ _ hx (k%s) (ys[k/s].cells[k%s]'(by omega)) (by simp[hl,h2]);rw[h3]at hu;refine⟨u,hu,ho,?_⟩;simp[dD,hk,hu]
 refine⟨by simp[dD],λ j u hu=> ?_,λ u hu=> ?_,λ i x hx=>⟨hs x (mem_of_getElem? hx),λ j d hj=> ?_⟩⟩
 ·have hj:j<ys.length*s:=by have:=(List.getElem?_eq_some_iff.1 hu).1;simpa [dD]using this
  obtain⟨u',h1,h2,h3⟩:=cz j hj;rw[h3]at hu;cases hu;rw[add_lit];exact h1
 ·obtain⟨j,hj⟩:=List.getElem?_of_mem hu;have hjl:j<ys.length*s:=by have:=(List.getElem?_eq_some_iff.1 hj).1;simpa [dD]using this
  obtain⟨u',h1,h2,h3⟩:=cz j hjl;rw[h3]at hj;cases hj;exact h2
 ·obtain⟨u,hu,ho,hr⟩:=h i x hx j d hj;have aF:i*s+j<ys.length*s:=ab9 (List.getElem?_eq_some_iff.1 hx).1 (by rw[←hs x (mem_of_getElem? hx)];exact(List.getElem?_eq_some_iff.1 hj).1);refine⟨u,?_,ho,hr⟩;simp[dD,aF,hu]
theorem fm.append{s:Nat}{xs ys:List AV}{c d:Array Value}(hx:fm I L O s xs c)(hy:fm I L O s ys d)(r:List Value)(adm:List Value)
  (ho:adm.length=xs.length*s) (hoc:∀(k:Nat),k<xs.length*s->adm[k]? =c[k]?):
  fm I L O s (xs++ys) (adm++d.toList++r).toArray:=by
 intro i x hi;by_cases h:i<xs.length
 ·rw[getElem?_append_left h]at hi;obtain⟨h1,h2⟩:=hx i x hi;refine⟨h1,λ j u hj=> ?_⟩;obtain⟨y,lf,ho',hr⟩:=h2 j u hj;have hjs:j<s:=by rw[←h1];exact(List.getElem?_eq_some_iff.1 hj).1
  have aF:i*s+j<xs.length*s:=ab9 h hjs;refine⟨y,?_,ho',hr⟩;simp only[getElem?_toArray];rw[append_assoc,getElem?_append_left (by omega),hoc _ aF,lf]
 ·rw[getElem?_append_right (by omega)]at hi;obtain⟨h1,h2⟩:=hy _ x hi;refine⟨h1,λ j u hj=> ?_⟩;obtain⟨y,lf,ho',hr⟩:=h2 j u hj
  have he:i*s+j=xs.length*s+((i- xs.length)*s+j):=by
   rw[←add_assoc,←add_mul];congr 2;omega
  have aF:(i- xs.length)*s+j<d.toList.length:=by
   have:=(Array.getElem?_eq_some_iff.1 lf).1;simpa using this
  refine⟨y,?_,ho',hr⟩;simp only[getElem?_toArray];rw[append_assoc,he,getElem?_append_right (by omega),ho,Nat.add_sub_cancel_left,getElem?_append_left aF,Array.getElem?_toList,lf]
end
end Go.Ab
namespace Go.Ab
section
variable {P:Program} {I:dv} {L:Nat->Loc} {O:List ae} {w:World} {K:AV->List ae->Prop} {e:Env} {a:Act}
theorem pX{t ty el:TypeId}{i:TypeInfo}(ht:P.underlying t=some (.slice el))(hi:P.info? el=some i)(b y:Option Addr)(n cap c:Nat)(hn:n<=cap)(w:World):
  (Builtin.append_ #[t,t] ty #[.slice b n cap,.slice y 0 c]).run P w= .ok (.slice b n cap) w:=by
 have hf:(Builtin.firstCells i.size 0 (.slice y 0 c)).run P w= .ok #[] w:=by
  cases y with
  |none=>simp[Builtin.firstCells]
  |some y=>have:=run_firstCells_some (P:=P) w i.size 0 y 0 c [] (by simp) (by simp);simpa using this
 cases b<;>simp[Builtin.append_,run_underlying ht,sizeOf,typeInfo,hi,Builtin.lenOf,hn,hf,storeCells]
theorem lv{n:Nat}(hn:n<O.length)(o:ae)(k:Nat):(O.set n o)[k]? =if k=n then some o else O[k]? :=by
 rw[List.getElem?_set];by_cases hk:n=k
 ·subst hk;simp[hn]
 ·rw[if_neg hk,if_neg (λ h=>hk h.symm)]
theorem fm.jZ{s:Nat}{xs:List AV}{r:List Value}{d z:Array Value}(h:fm I L O s xs (r++d.toList++z.toList).toArray):fm I L O s xs (r.toArray++d++z):=by
 intro i x hx;obtain⟨q1,q2⟩:=h i x hx;refine⟨q1,λ j d' hj=> ?_⟩;obtain⟨u,hu,ho,hr⟩:=q2 j d' hj;exact⟨u,by rw[←hu];congr 1;apply Array.ext';simp,ho,hr⟩
theorem aql{t ty el:Nat}{i:TypeInfo}{z0:Value}(ht:P.underlying t=some (.slice el))(hi:P.info? el=some i)(hz:i.zero=some z0)(h0:0<i.size)(yj:z0.cells.size=i.size)
  (hinv:Inv I L O w) {ys:List AV} {b o c:Nat} (hs:∀x∈ys,x.cells.length=i.size) (bB:ys≠[])
  (hc:∀(k:Nat) x,ys[k]? =some x->∀(j:Nat) d,x.cells[j]? =some d->∃u,w.cell? ⟨b,o+(k*i.size+j),none⟩=some u/\u.oneCell'=true/\R I L O d u)
  (ov:ys.length*i.bytes<=140737488355328) (jH:ys.length<=maxLen):
  ∃y' I' L' w',Good I L O w I' L' (O++ [.live el i.size ys]) w'/\R I' L' (O++ [.live el i.size ys]) (.row O.length ys.length) y'/\
   (Builtin.append_ #[t,t] ty #[.slice none 0 0,.slice (some ⟨b,o,none⟩) ys.length c]).run P w= .ok y' w':=by
 obtain⟨h1,h2,h3,h4⟩:=mJ hs hc;have rR:0<ys.length:=List.length_pos_iff.2 bB;have hm:ys.length<=9223372036854775807:=by simpa [maxLen]using jH
 have bK:=run_append_nil (P:=P) w t ty el i z0 ht hi hz ⟨b,o,none⟩ ys.length c (dD w b o (ys.length*i.size)) h1 h2 rR (by omega) (by omega);have hge:=grownCap_ge w ys.length 0 el;have hle:=grownCap_le_maxLen w ys.length 0 el jH;generalize grownCap w ys.length 0 el=cap at*;have dY:=(Good.drawn hinv (w.drawn+1));have eh:=fm.append (I:=I) (L:=L) (O:=O) (s:=i.size) (xs:=[]) (ys:=ys) (c:= #[]) (d:=(dD w b o (ys.length*i.size)).toArray) (λ i x hx=>by simp at hx) h4 (Builtin.zeroCells z0.cells (cap- ys.length)).toList [] (by simp) (by simp)
 have dL:=dY.inv.new (e:=el) (s:=i.size) (xs:=ys) ((dD w b o (ys.length*i.size)).toArray++Builtin.zeroCells z0.cells (cap- ys.length)) cap
  (by rw[Array.size_append,size_zeroCells,yj];simp only[size_toArray,h1];rw[←add_mul];congr 1;omega) hge hle h0 (by
   have:fm I L O i.size ys ((dD w b o (ys.length*i.size)).toArray++Builtin.zeroCells z0.cells (cap- ys.length)):=by simpa using fm.jZ eh
   exact this)
 refine⟨_,_,_,_,dY.trans dL,?_,bK⟩;have:=R.cq (I:=I) (L:=λ k=>if k=O.length then Loc.at w.heap.size (cap)else L k) (O:=O++ [.live el i.size ys]) O.length ys.length el i.size ys (by simp) rfl;simpa using this
theorem ajU{t ty el:Nat}{i:TypeInfo}{z0:Value}(ht:P.underlying t=some (.slice el))(hi:P.info? el=some i)(hz:i.zero=some z0)(h0:0<i.size)(yj:z0.cells.size=i.size)
  (hinv:Inv I L O w) {n:Nat} (hn:O[n]? =some (.nil el i.size)) {ys:List AV} {b o c:Nat} (hs:∀x∈ys,x.cells.length=i.size) (bB:ys≠[])
  (hc:∀(k:Nat) x,ys[k]? =some x->∀(j:Nat) d,x.cells[j]? =some d->∃u,w.cell? ⟨b,o+(k*i.size+j),none⟩=some u/\u.oneCell'=true/\R I L O d u)
  (ov:ys.length*i.bytes<=140737488355328) (jH:ys.length<=maxLen):
  ∃y' I' L' w',Good I L O w I' L' (O.set n (.live el i.size ys)) w'/\R I' L' (O.set n (.live el i.size ys)) (.row n ys.length) y'/\
   (Builtin.append_ #[t,t] ty #[.slice none 0 0,.slice (some ⟨b,o,none⟩) ys.length c]).run P w= .ok y' w':=by
 have mv:n<O.length:=(List.getElem?_eq_some_iff.1 hn).1;obtain⟨h1,h2,h3,h4⟩:=mJ hs hc;have rR:0<ys.length:=List.length_pos_iff.2 bB;have hm:ys.length<=9223372036854775807:=by simpa [maxLen]using jH
 have bK:=run_append_nil (P:=P) w t ty el i z0 ht hi hz ⟨b,o,none⟩ ys.length c (dD w b o (ys.length*i.size)) h1 h2 rR (by omega) (by omega);have hge:=grownCap_ge w ys.length 0 el;have hle:=grownCap_le_maxLen w ys.length 0 el jH;generalize grownCap w ys.length 0 el=cap at*;have dY:=(Good.drawn hinv (w.drawn+1));have eh:=fm.append (I:=I) (L:=L) (O:=O) (s:=i.size) (xs:=[]) (ys:=ys) (c:= #[]) (d:=(dD w b o (ys.length*i.size)).toArray) (λ i x hx=>by simp at hx) h4 (Builtin.zeroCells z0.cells (cap- ys.length)).toList [] (by simp) (by simp)
 have dL:=dY.inv.put (n:=n) (l:=Loc.at w.heap.size (cap)) (e:=el) (s:=i.size) (xs:=ys) (O':=O.set n (.live el i.size ys))
  (w':=w.drew.alloc (.cells ((dD w b o (ys.length*i.size)).toArray++Builtin.zeroCells z0.cells (cap- ys.length)) el))
  (lv mv _) (by simp) (λ b' lh _=>heap_alloc_old w.drew _ b' lh) rfl rfl rfl (by rw[World.size_alloc];exact le_succ _) (.inl (le_refl _))
  ⟨_,⟨_,heap_alloc_new w.drew _,.inl rfl⟩,by rw[Array.size_append,size_zeroCells,yj];simp only[size_toArray,h1];rw[←add_mul];congr 1;omega,hge,hle,h0,by
    have:fm I L O i.size ys ((dD w b o (ys.length*i.size)).toArray++Builtin.zeroCells z0.cells (cap- ys.length)):=by simpa using fm.jZ eh
    exact this⟩
  (λ _=> .inr ⟨hn,bB⟩)
 refine⟨_,_,_,_,dY.trans dL,?_,bK⟩;have:=R.cq (I:=I) (L:=λ k=>if k=n then Loc.at w.heap.size (cap)else L k) (O:=O.set n (.live el i.size ys)) n ys.length el i.size ys (by simp[mv]) rfl;simpa using this
theorem anE{t ty el:Nat}{i:TypeInfo}(ht:P.underlying t=some (.slice el))(hi:P.info? el=some i)
  (hinv:Inv I L O w) {n:Nat} {xs ys:List AV} {b o c:Nat} (hn:O[n]? =some (.live el i.size xs)) (hs:∀x∈ys,x.cells.length=i.size)
  (hc:∀(k:Nat) x,ys[k]? =some x->∀(j:Nat) d,x.cells[j]? =some d->∃u,w.cell? ⟨b,o+(k*i.size+j),none⟩=some u/\u.oneCell'=true/\R I L O d u)
  (kH:xs.length+ys.length<=(L n).cap):
  ∃y' I' L' w',Good I L O w I' L' (O.set n (.live el i.size (xs++ys))) w'/\R I' L' (O.set n (.live el i.size (xs++ys))) (.row n (xs.length+ys.length)) y'/\
   (Builtin.append_ #[t,t] ty #[.slice (some ⟨(L n).bh,0,none⟩) xs.length (L n).cap,.slice (some ⟨b,o,none⟩) ys.length c]).run P w= .ok y' w':=by
 obtain⟨h1,h2,h3,h4⟩:=mJ hs hc;obtain⟨cur,⟨kR,g1,dE⟩,g2,g3,g4,g5,g6⟩:=hinv.obj n _ _ xs hn;have mv:n<O.length:=(List.getElem?_eq_some_iff.1 hn).1;have hmul:xs.length*i.size+ys.length*i.size<=(L n).cap*i.size:=by rw[←add_mul];exact mul_le_mul_right _ kH
 have mZ:xs.length*i.size+(dD w b o (ys.length*i.size)).length<=cur.size:=by
  rw[h1,g2];exact hmul
 have bK:=sq (P:=P) w t ty el i ht hi (L n).bh xs.length (L n).cap cur g1 dE ⟨b,o,none⟩ ys.length c (dD w b o (ys.length*i.size)) h1 h2 h3 kH mZ
 have eh:=fm.append (I:=I) (L:=L) (O:=O) (s:=i.size) (xs:=xs) (ys:=ys) (c:=cur) (d:=(dD w b o (ys.length*i.size)).toArray) g6 h4 (cur.toList.drop (xs.length*i.size+(dD w b o (ys.length*i.size)).length)) (cur.toList.take (xs.length*i.size))
  (by simp only[length_take,Array.length_toList];omega) (λ k hk=>by rw[getElem?_take,if_pos hk,Array.getElem?_toList])
 have dY:=hinv.put (n:=n) (l:=L n) (e:=el) (s:=i.size) (xs:=xs++ys) (O':=O.set n (.live el i.size (xs++ys))) (w':=w.setRow (L n).bh (cur.toList.take (xs.length*i.size)++dD w b o (ys.length*i.size)++cur.toList.drop (xs.length*i.size+(dD w b o (ys.length*i.size)).length)).toArray)
  (lv mv _) (by simp) (λ b' _ lh=>setRow_other w _ _ _ lh) rfl rfl rfl (by simp) (.inr ⟨_,_,_,hn,rfl⟩)
  ⟨_,⟨_,setRow_heap w _ cur _ _ _ g1,dE.size (by simp only[size_toArray,length_append,length_take,length_drop,Array.length_toList];omega)⟩,by simp only[size_toArray,length_append,length_take,length_drop,Array.length_toList];omega,by simpa using kH,g4,g5,eh⟩
  (λ _=> .inl ⟨xs,hn,by simp,λ _=>rfl⟩)
 refine⟨_,_,_,_,dY,?_,bK⟩;have:=R.cq (I:=I) (L:=λ k=>if k=n then L n else L k) (O:=O.set n (.live el i.size (xs++ys))) n (xs.length+ys.length) el i.size (xs++ys) (by simp[mv]) (by simp);simpa using this
theorem anF{t ty el:Nat}{i:TypeInfo}{z0:Value}(ht:P.underlying t=some (.slice el))(hi:P.info? el=some i)(hz:i.zero=some z0)(yj:z0.cells.size=i.size)
  (hinv:Inv I L O w) {n:Nat} {xs ys:List AV} {b o c:Nat} (hn:O[n]? =some (.live el i.size xs)) (hs:∀x∈ys,x.cells.length=i.size) (bB:ys≠[])
  (hc:∀(k:Nat) x,ys[k]? =some x->∀(j:Nat) d,x.cells[j]? =some d->∃u,w.cell? ⟨b,o+(k*i.size+j),none⟩=some u/\u.oneCell'=true/\R I L O d u)
  (ov:(xs.length+ys.length)*i.bytes<=140737488355328) (jH:xs.length+ys.length<=maxLen) (kH:(L n).cap<xs.length+ys.length):
  ∃y' I' L' w',Good I L O w I' L' (O.set n (.live el i.size (xs++ys))) w'/\R I' L' (O.set n (.live el i.size (xs++ys))) (.row n (xs.length+ys.length)) y'/\
   (Builtin.append_ #[t,t] ty #[.slice (some ⟨(L n).bh,0,none⟩) xs.length (L n).cap,.slice (some ⟨b,o,none⟩) ys.length c]).run P w= .ok y' w':=by
 obtain⟨h1,h2,h3,h4⟩:=mJ hs hc;obtain⟨cur,⟨kR,g1,dE⟩,g2,g3,g4,g5,g6⟩:=hinv.obj n _ _ xs hn;have mv:n<O.length:=(List.getElem?_eq_some_iff.1 hn).1;have hm:xs.length+ys.length<=9223372036854775807:=by simpa [maxLen]using jH
 have rR:0<ys.length:=List.length_pos_iff.2 bB
 have holds:(cur.toList.take (xs.length*i.size)).length=xs.length*i.size:=by
  simp only[length_take,Array.length_toList,g2];exact min_eq_left (mul_le_mul_right _ g3)
 have bK:=run_append_grow (P:=P) w t ty el i z0 ht hi hz ⟨(L n).bh,0,none⟩ xs.length (L n).cap (cur.toList.take (xs.length*i.size)) holds (λ j v hv=>by
  rw[add_lit,zero_add,eN g1];rw[getElem?_take]at hv
  split at hv
  ·simpa using hv
  ·cases hv) ⟨b,o,none⟩ ys.length c (dD w b o (ys.length*i.size)) h1 h2 (by omega) (by omega) (growslice_fits (by omega) ov)
 have hge:=grownCap_ge w (xs.length+ys.length) (L n).cap el;have hle:=grownCap_le_maxLen w (xs.length+ys.length) (L n).cap el jH;generalize grownCap w (xs.length+ys.length) (L n).cap el=cap at*
 have eh:=fm.append (I:=I) (L:=L) (O:=O) (s:=i.size) (xs:=xs) (ys:=ys) (c:=cur) (d:=(dD w b o (ys.length*i.size)).toArray) g6 h4 (Builtin.zeroCells z0.cells (cap- (xs.length+ys.length))).toList (cur.toList.take (xs.length*i.size))
  holds (λ k hk=>by rw[getElem?_take,if_pos hk,Array.getElem?_toList])
 have yq:=(Good.drawn hinv (w.drawn+1))
 have dY:=yq.inv.put (n:=n) (l:=Loc.at w.heap.size (cap)) (e:=el) (s:=i.size) (xs:=xs++ys) (O':=O.set n (.live el i.size (xs++ys)))
  (w':=w.drew.alloc (.cells ((cur.toList.take (xs.length*i.size)).toArray++(dD w b o (ys.length*i.size)).toArray++Builtin.zeroCells z0.cells (cap- (xs.length+ys.length))) el))
  (lv mv _) (by simp) (λ b' lh _=>heap_alloc_old w.drew _ b' lh) rfl rfl rfl (by rw[World.size_alloc];exact le_succ _) (.inl (le_refl _))
  ⟨_,⟨_,heap_alloc_new w.drew _,.inl rfl⟩,by
     simp only[Array.size_append,size_zeroCells,yj,size_toArray,holds,h1];rw[←add_mul,←add_mul];congr 1;omega,by simpa using hge,hle,g5,fm.jZ eh⟩
  (λ _=> .inl ⟨xs,hn,by simp,λ he=>by simp at he;exact(bB he).elim⟩)
 refine⟨_,_,_,_,yq.trans dY,?_,bK⟩;have:=R.cq (I:=I) (L:=λ k=>if k=n then Loc.at w.heap.size (cap)else L k) (O:=O.set n (.live el i.size (xs++ys))) n (xs.length+ys.length) el i.size (xs++ys) (by simp[mv]) (by simp);simpa using this
theorem aqk{t ty el s by_:Nat}{z:AV}(ht:P.underlying t=some (.slice el))(fw:mj P el=some (s,by_,z)){x y:AV}{vx vy:Value}
  (hinv:Inv I L O w) (hx:R I L O x vx) (hy:R I L O y vy)
  (hk0:rh O y λ ys=>(∀y∈ys,y.cells.length=s)/\gY O x el s by_ ys K):
  ∃x' O' y' I' L' w',K x' O'/\Good I L O w I' L' O' w'/\R I' L' O' x' y'/\(Builtin.append_ #[t,t] ty #[vx,vy]).run P w= .ok y' w':=by
 obtain⟨i,z0,hi,hz,hz0,sd,hby,hzl,h0,yj,om⟩:=e8 fw;obtain⟨ys,ya,c,⟨hs,hk⟩,rfl,agi⟩:=aoi hinv hy hk0;clear hk0;subst sd;subst hby;cases x
 case aw=>
  obtain⟨ov,jH,hk0,uY⟩:=hk;cases hx;by_cases bB:ys= []
  ·subst bB;exact⟨_,O,_,I,L,w,hk0 rfl,.refl hinv,.aw,pX ht hi none ya 0 0 c (le_refl _) w⟩
  ·obtain⟨b,o,rfl,hc⟩:=agi i.size hs bB;obtain⟨y',I',L',w',q1,q2,q3⟩:=aql ht hi hz h0 yj hinv hs bB hc ov jH (c:=c);exact⟨_,_,y',I',L',w',uY bB,q1,q2,q3⟩
 case row n len=>
  cases hn:O[n]? with
  |none=>simp only[gY,hn]at hk
  |some ob=>
   cases ob with
   |dead=>simp only[gY,hn]at hk
   |own a=>simp only[gY,hn]at hk
   |dc g=>simp only[gY,hn]at hk
   |nil t' s'=>
    simp only[gY,hn]at hk;obtain⟨rfl,rfl,rfl,ov,jH,hk0,uY⟩:=hk;obtain⟨rfl,_⟩:=hx.kf hn;by_cases bB:ys= []
    ·subst bB;exact⟨_,O,_,I,L,w,hk0 rfl,.refl hinv,.fY n _ _ hn,pX ht hi none ya 0 0 c (le_refl _) w⟩
    ·obtain⟨b,o,rfl,hc⟩:=agi i.size hs bB;obtain⟨y',I',L',w',q1,q2,q3⟩:=ajU ht hi hz h0 yj hinv hn hs bB hc ov jH (c:=c);exact⟨_,_,y',I',L',w',uY bB,q1,q2,q3⟩
   |live t' s' xs=>
    simp only[gY,hn]at hk;obtain⟨rfl,rfl,hlen,ov,jH,hk⟩:=hk;have hv:=hx.ep hn hlen;subst hv;subst hlen;have mv:n<O.length:=(List.getElem?_eq_some_iff.1 hn).1;by_cases bB:ys= []
    ·subst bB;obtain⟨cur,⟨kR,g1,dE⟩,g2,g3,g4,g5,g6⟩:=hinv.obj n _ _ xs hn
     have hO:O.set n (.live t' i.size (xs++ []))=O:=by
      rw[append_nil];apply ext_getElem?;intro k;rw[lv mv];split
      ·rename_i ot;rw[ot,hn]
      ·rfl
     rw[hO]at hk;exact⟨_,O,_,I,L,w,hk,.refl hinv,hx,pX ht hi _ ya xs.length _ c g3 w⟩
    ·obtain⟨b,o,rfl,hc⟩:=agi i.size hs bB;by_cases kH:xs.length+ys.length<=(L n).cap
     ·obtain⟨y',I',L',w',q1,q2,q3⟩:=anE ht hi hinv hn hs hc kH (c:=c);exact⟨_,_,y',I',L',w',hk,q1,q2,q3⟩
     ·obtain⟨y',I',L',w',q1,q2,q3⟩:=anF ht hi hz yj hinv hn hs bB hc ov jH (by omega) (c:=c);exact⟨_,_,y',I',L',w',hk,q1,q2,q3⟩
 all_goals exact hk.elim
end
end Go.Ab
namespace Go.Ab
def dt(s:ByteArray):List AV:=s.data.toList.map λ c=> .v (.int .u8 c.toNat)
def eU(s:ByteArray):List Value:=s.data.toList.map λ c=> .int .u8 c.toNat
theorem mB(s:ByteArray):(dt s).length=s.size:=by simp[dt]
theorem aam(s:ByteArray):(eU s).length=s.size:=by simp[eU]
theorem tK(s:ByteArray):(eU s).toArray=s.data.map λ b=>Value.int .u8 b.toNat:=by
 apply Array.ext';simp[eU]
section
variable {P:Program} {I:dv} {L:Nat->Loc} {O:List ae} {w:World} {K:AV->List ae->Prop} {e:Env} {a:Act}
theorem lU{sb:ByteArray}{s:Nat}(h:s=1):(eU sb).length=(dt sb).length*s/\(∀u∈eU sb,u.oneCell'=true)/\fm I L O s (dt sb) (eU sb).toArray:=by
 subst h;refine⟨by simp[aam,mB],λ u hu=> ?_,λ i x hx=> ?_⟩
 ·obtain⟨c,_,rfl⟩:=List.mem_map.1 hu;rfl
 ·simp only[dt,List.getElem?_map,map_eq_some_iff]at hx;obtain⟨c,hc,rfl⟩:=hx;refine⟨rfl,λ j d hj=> ?_⟩;cases j with
  |zero=>
   simp[AV.cells]at hj;subst hj;exact⟨.int .u8 c.toNat,by simp[eU,hc],rfl,.v _ rfl⟩
  |succ j=>simp[AV.cells]at hj
theorem jW(size:Nat)(s:ByteArray)(w:World):(Builtin.firstCells size s.size (.string s)).run P w= .ok (eU s).toArray w:=by
 have hx:(s.extract 0 s.size).data=s.data:=by simp[ByteArray.extract_zero_size]
 simp[Builtin.firstCells,tK,hx]
theorem nB(w:World)(t u ty e:TypeId)(i:TypeInfo)(z:Value)(ht:P.underlying t=some (.slice e))(hu:P.underlying u=some .string)(hi:P.info? e=some i)(hz:i.zero=some z)
  (s:ByteArray) (h0:0<(dt s).length) (h63:((dt s).length:Int)<=9223372036854775807) (ov:(dt s).length*i.bytes<=281474976710656):
  (Builtin.append_ #[t,u] ty #[.slice none 0 0,.string s]).run P w=
   .ok (.slice (some ⟨w.heap.size,0,none⟩) (dt s).length (grownCap w (dt s).length 0 e)) (w.drew.alloc (.cells ((eU s).toArray++Builtin.zeroCells z.cells (grownCap w (dt s).length 0 e- (dt s).length)) e)):=by
 rw[mB]at*;rw[tK];exact run_append_nil_string w t u ty e i z ht hu hi hz s h0 h63 ov
theorem so(w:World)(t u ty e:TypeId)(i:TypeInfo)(ht:P.underlying t=some (.slice e))(hu:P.underlying u=some .string)(hi:P.info? e=some i)
  {m0:Nat×Nat} {sz:Nat} (g jv qy:Nat) (cur:Array Value) (hg:w.heap[g]? =some (.cells cur e m0)) (hmk:Mk m0 cur.size sz)
  (s:ByteArray) (h1:∀u∈eU s,u.oneCell'=true)
  (kH:jv+(dt s).length<=qy) (mZ:jv*i.size+(eU s).length<=cur.size):
  (Builtin.append_ #[t,u] ty #[.slice (some ⟨g,0,none⟩) jv qy,.string s]).run P w=
   .ok (.slice (some ⟨g,0,none⟩) (jv+(dt s).length) qy) (w.setRow g (cur.toList.take (jv*i.size)++eU s++cur.toList.drop (jv*i.size+(eU s).length)).toArray):=by
 have om:=hZ (P:=P) g (jv*i.size) sz e m0 (eU s) 0 cur w hg hmk (by simpa using mZ) h1;simp only[add_zero]at om;rw[mB]at*;simp[Builtin.append_,run_underlying ht,run_underlying hu,sizeOf,typeInfo,hi,Builtin.lenOf,kH,jW,Addr.add_lit,om]
theorem sr(w:World)(t u ty e:TypeId)(i:TypeInfo)(z:Value)(ht:P.underlying t=some (.slice e))(hu:P.underlying u=some .string)(hi:P.info? e=some i)(hz:i.zero=some z)
  (b:Addr) (jv qy:Nat) (adm:List Value) (hlo:adm.length=jv*i.size) (holds:∀j v,adm[j]? =some v->w.cell? (b.add j)=some v)
  (s:ByteArray)
  (hg:qy<jv+(dt s).length) (h63:((jv+(dt s).length:Nat):Int)<=9223372036854775807) (mZ:Builtin.nextslicecap (jv+(dt s).length) qy*i.bytes<=281474976710656):
  (Builtin.append_ #[t,u] ty #[.slice (some b) jv qy,.string s]).run P w=
   .ok (.slice (some ⟨w.heap.size,0,none⟩) (jv+(dt s).length) (grownCap w (jv+(dt s).length) qy e))
    (w.drew.alloc (.cells (adm.toArray++(eU s).toArray++Builtin.zeroCells z.cells (grownCap w (jv+(dt s).length) qy e- (jv+(dt s).length))) e)):=by
 rw[mB]at*;have hn:¬(jv+s.size<=qy):=by omega
 have atz:¬(9223372036854775807<((jv:Int)+(s.size:Int))):=by omega
 have atA:¬(281474976710656<Builtin.nextslicecap (jv+s.size) qy*i.bytes):=by omega
 have hf:=λ w=>jW (P:=P) i.size s w
 have hfo:=run_firstCells_some (P:=P) w.drew i.size jv b jv qy adm hlo (by simpa using holds);simp[Builtin.append_,run_underlying ht,run_underlying hu,sizeOf,typeInfo,zeroValue,hi,hz,Builtin.lenOf,hn,atz,atA,Question.forced,hf,hfo,newRow,grownCap];congr 2;apply Array.ext';simp[append_assoc]
theorem m7{t u ty el:TypeId}{i:TypeInfo}(ht:P.underlying t=some (.slice el))(hu:P.underlying u=some .string)(hi:P.info? el=some i)(b:Option Addr)(n cap:Nat)(hn:n<=cap){s:ByteArray}(hs:s.size=0)(w:World):
  (Builtin.append_ #[t,u] ty #[.slice b n cap,.string s]).run P w= .ok (.slice b n cap) w:=by
 have hf:(Builtin.firstCells i.size 0 (.string s)).run P w= .ok #[] w:=by
  have:=jW (P:=P) i.size s w;rw[hs]at this;rw[this,List.eq_nil_of_length_eq_zero (by rw[aam,hs]:(eU s).length=0)]
 cases b<;>simp[Builtin.append_,run_underlying ht,run_underlying hu,sizeOf,typeInfo,hi,Builtin.lenOf,hs,hn,hf,storeCells]
theorem anD{t u ty el:Nat}{i:TypeInfo}{z0:Value}(ht:P.underlying t=some (.slice el))(hu:P.underlying u=some .string){sb:ByteArray}(hi:P.info? el=some i)(hz:i.zero=some z0)(h0:0<i.size)(yj:z0.cells.size=i.size)
  (hinv:Inv I L O w) (h1s:i.size=1) (bB:(dt sb)≠[])
  (ov:(dt sb).length*i.bytes<=140737488355328) (jH:(dt sb).length<=maxLen):
  ∃y' I' L' w',Good I L O w I' L' (O++ [.live el i.size (dt sb)]) w'/\R I' L' (O++ [.live el i.size (dt sb)]) (.row O.length (dt sb).length) y'/\
   (Builtin.append_ #[t,u] ty #[.slice none 0 0,.string sb]).run P w= .ok y' w':=by
 obtain⟨h1,h3,h4⟩:=lU (I:=I) (L:=L) (O:=O) (sb:=sb) h1s;have rR:0<(dt sb).length:=List.length_pos_iff.2 bB;have hm:(dt sb).length<=9223372036854775807:=by simpa [maxLen]using jH
 have bK:=nB (P:=P) w t u ty el i z0 ht hu hi hz sb rR (by omega) (by omega);have hge:=grownCap_ge w (dt sb).length 0 el;have hle:=grownCap_le_maxLen w (dt sb).length 0 el jH;generalize grownCap w (dt sb).length 0 el=cap at*;have dY:=(Good.drawn hinv (w.drawn+1));have eh:=fm.append (I:=I) (L:=L) (O:=O) (s:=i.size) (xs:=[]) (ys:=(dt sb)) (c:= #[]) (d:=(eU sb).toArray) (λ i x hx=>by simp at hx) h4 (Builtin.zeroCells z0.cells (cap- (dt sb).length)).toList [] (by simp) (by simp)
 have dL:=dY.inv.new (e:=el) (s:=i.size) (xs:=(dt sb)) ((eU sb).toArray++Builtin.zeroCells z0.cells (cap- (dt sb).length)) cap
  (by rw[Array.size_append,size_zeroCells,yj];simp only[size_toArray,h1];rw[←add_mul];congr 1;omega) hge hle h0 (by
   have:fm I L O i.size (dt sb) ((eU sb).toArray++Builtin.zeroCells z0.cells (cap- (dt sb).length)):=by simpa using fm.jZ eh
   exact this)
 refine⟨_,_,_,_,dY.trans dL,?_,bK⟩;have:=R.cq (I:=I) (L:=λ k=>if k=O.length then Loc.at w.heap.size (cap)else L k) (O:=O++ [.live el i.size (dt sb)]) O.length (dt sb).length el i.size (dt sb) (by simp) rfl;simpa using this
theorem tB(w:World)(t u ty e:TypeId)(i:TypeInfo)(z:Value)(ki:IntKind)(ht:P.underlying t=some (.slice e))(hu:P.underlying u=some (.int ki))(hi:P.info? e=some i)(hz:i.zero=some z)(h0:0<i.size)
  (k:Nat) (hk:0<k) (h63:(k:Int)<=9223372036854775807) (ov:k*i.bytes<=281474976710656):
  (Builtin.append_ #[t,u] ty #[.slice none 0 0,.int .i64 k]).run P w=
   .ok (.slice (some ⟨w.heap.size,0,none⟩) k (grownCap w k 0 e)) (w.drew.alloc (.cells (Builtin.zeroCells z.cells k++Builtin.zeroCells z.cells (grownCap w k 0 e- k)) e)):=by
 have hn:k≠0:=by omega
 have atz:¬(9223372036854775807<(k:Int)):=by omega
 have atA:¬(281474976710656<Builtin.nextslicecap k 0*i.bytes):=by rw[nextslicecap_zero hk];omega
 have hw:IntKind.i64.wrap (k:Int)=k:=by
  simp[IntKind.wrap,IntKind.signed,IntKind.bits]
  split<;>omega
 have aAB:¬(281474976710656<(k:Int)*(i.bytes:Int)):=by
  have:((k*i.bytes:Nat):Int)<=281474976710656:=by omega
  rw[Int.natCast_mul]at this;omega
 have aF:¬((k:Int)<0):=by omega
 have hs:¬(k*i.size=0):=Nat.mul_ne_zero hn (by omega);simp[Builtin.append_,run_underlying ht,run_underlying hu,sizeOf,typeInfo,zeroValue,hi,hz,asInt,asIntOf,hw,aF,aAB,Builtin.firstCells,hn,hs,atz,atA,Question.forced,newRow,grownCap]
theorem anB{t u ty el:Nat}{i:TypeInfo}{z0:Value}{z:AV}{ki:IntKind}(ht:P.underlying t=some (.slice el))(hu:P.underlying u=some (.int ki)){k:Nat}(hi:P.info? el=some i)(hz:i.zero=some z0)(hz0:ajW z0=some z)(h0:0<i.size)(yj:z0.cells.size=i.size)
  (om:z.storable=true) (hzl:z.cells.length=i.size) (hinv:Inv I L O w) (hk:0<k) (ov:k*i.bytes<=281474976710656) (jH:k<=maxLen):
  ∃y' I' L' w',Good I L O w I' L' (O++ [.live el i.size (List.replicate k z)]) w'/\R I' L' (O++ [.live el i.size (List.replicate k z)]) (.row O.length k) y'/\
   (Builtin.append_ #[t,u] ty #[.slice none 0 0,.int .i64 k]).run P w= .ok y' w':=by
 have hm:k<=9223372036854775807:=by simpa [maxLen]using jH
 have bK:=tB (P:=P) w t u ty el i z0 ki ht hu hi hz h0 k hk (by omega) ov;have hge:=grownCap_ge w k 0 el;have hle:=grownCap_le_maxLen w k 0 el jH;generalize grownCap w k 0 el=cap at*;have dY:=(Good.drawn hinv (w.drawn+1))
 have h4:fm I L O i.size (List.replicate k z) (Builtin.zeroCells z0.cells k):=by
  have:=fm.made (I:=I) (L:=L) (O:=O) (cap:=k) (n:=k) (eO hz0) om hzl h0 (le_refl _);unfold Builtin.zeroCells;rw[yj]at this⊢;exact this
 have sd:(Builtin.zeroCells z0.cells k).size=k*i.size:=by rw[size_zeroCells,yj]
 have eh:=fm.append (I:=I) (L:=L) (O:=O) (s:=i.size) (xs:=[]) (ys:=List.replicate k z) (c:= #[]) (d:=Builtin.zeroCells z0.cells k) (λ i x hx=>by simp at hx) h4 (Builtin.zeroCells z0.cells (cap- k)).toList [] (by simp) (by simp)
 have dL:=dY.inv.new (e:=el) (s:=i.size) (xs:=List.replicate k z) (Builtin.zeroCells z0.cells k++Builtin.zeroCells z0.cells (cap- k)) cap
  (by rw[Array.size_append,size_zeroCells,size_zeroCells,yj,←add_mul];congr 1;omega) (by simpa using hge) hle h0 (by
   have:fm I L O i.size (List.replicate k z) (Builtin.zeroCells z0.cells k++Builtin.zeroCells z0.cells (cap- k)):=by simpa using fm.jZ eh
   exact this)
 refine⟨_,_,_,_,dY.trans dL,?_,bK⟩;have:=R.cq (I:=I) (L:=λ m=>if m=O.length then Loc.at w.heap.size (cap)else L m) (O:=O++ [.live el i.size (List.replicate k z)]) O.length k el i.size (List.replicate k z) (by simp) (by simp);simpa using this
theorem agL{t u ty el:Nat}{i:TypeInfo}{z0:Value}(ht:P.underlying t=some (.slice el))(hu:P.underlying u=some .string){sb:ByteArray}(hi:P.info? el=some i)(hz:i.zero=some z0)(h0:0<i.size)(yj:z0.cells.size=i.size)
  (hinv:Inv I L O w) {n:Nat} (hn:O[n]? =some (.nil el i.size)) (h1s:i.size=1) (bB:(dt sb)≠[])
  (ov:(dt sb).length*i.bytes<=140737488355328) (jH:(dt sb).length<=maxLen):
  ∃y' I' L' w',Good I L O w I' L' (O.set n (.live el i.size (dt sb))) w'/\R I' L' (O.set n (.live el i.size (dt sb))) (.row n (dt sb).length) y'/\
   (Builtin.append_ #[t,u] ty #[.slice none 0 0,.string sb]).run P w= .ok y' w':=by
 have mv:n<O.length:=(List.getElem?_eq_some_iff.1 hn).1;obtain⟨h1,h3,h4⟩:=lU (I:=I) (L:=L) (O:=O) (sb:=sb) h1s;have rR:0<(dt sb).length:=List.length_pos_iff.2 bB;have hm:(dt sb).length<=9223372036854775807:=by simpa [maxLen]using jH
 have bK:=nB (P:=P) w t u ty el i z0 ht hu hi hz sb rR (by omega) (by omega);have hge:=grownCap_ge w (dt sb).length 0 el;have hle:=grownCap_le_maxLen w (dt sb).length 0 el jH;generalize grownCap w (dt sb).length 0 el=cap at*;have dY:=(Good.drawn hinv (w.drawn+1));have eh:=fm.append (I:=I) (L:=L) (O:=O) (s:=i.size) (xs:=[]) (ys:=(dt sb)) (c:= #[]) (d:=(eU sb).toArray) (λ i x hx=>by simp at hx) h4 (Builtin.zeroCells z0.cells (cap- (dt sb).length)).toList [] (by simp) (by simp)
 have dL:=dY.inv.put (n:=n) (l:=Loc.at w.heap.size (cap)) (e:=el) (s:=i.size) (xs:=(dt sb)) (O':=O.set n (.live el i.size (dt sb)))
  (w':=w.drew.alloc (.cells ((eU sb).toArray++Builtin.zeroCells z0.cells (cap- (dt sb).length)) el))
  (lv mv _) (by simp) (λ b' lh _=>heap_alloc_old w.drew _ b' lh) rfl rfl rfl (by rw[World.size_alloc];exact le_succ _) (.inl (le_refl _))
  ⟨_,⟨_,heap_alloc_new w.drew _,.inl rfl⟩,by rw[Array.size_append,size_zeroCells,yj];simp only[size_toArray,h1];rw[←add_mul];congr 1;omega,hge,hle,h0,by
    have:fm I L O i.size (dt sb) ((eU sb).toArray++Builtin.zeroCells z0.cells (cap- (dt sb).length)):=by simpa using fm.jZ eh
    exact this⟩
  (λ _=> .inr ⟨hn,bB⟩)
 refine⟨_,_,_,_,dY.trans dL,?_,bK⟩;have:=R.cq (I:=I) (L:=λ k=>if k=n then Loc.at w.heap.size (cap)else L k) (O:=O.set n (.live el i.size (dt sb))) n (dt sb).length el i.size (dt sb) (by simp[mv]) rfl;simpa using this
theorem ajS{t u ty el:Nat}{i:TypeInfo}(ht:P.underlying t=some (.slice el))(hu:P.underlying u=some .string){sb:ByteArray}(hi:P.info? el=some i)
  (hinv:Inv I L O w) {n:Nat} {xs:List AV} (h1s:i.size=1) (hn:O[n]? =some (.live el i.size xs))
  (kH:xs.length+(dt sb).length<=(L n).cap):
  ∃y' I' L' w',Good I L O w I' L' (O.set n (.live el i.size (xs++(dt sb)))) w'/\R I' L' (O.set n (.live el i.size (xs++(dt sb)))) (.row n (xs.length+(dt sb).length)) y'/\
   (Builtin.append_ #[t,u] ty #[.slice (some ⟨(L n).bh,0,none⟩) xs.length (L n).cap,.string sb]).run P w= .ok y' w':=by
 obtain⟨h1,h3,h4⟩:=lU (I:=I) (L:=L) (O:=O) (sb:=sb) h1s;obtain⟨cur,⟨kR,g1,dE⟩,g2,g3,g4,g5,g6⟩:=hinv.obj n _ _ xs hn;have mv:n<O.length:=(List.getElem?_eq_some_iff.1 hn).1;have hmul:xs.length*i.size+(dt sb).length*i.size<=(L n).cap*i.size:=by rw[←add_mul];exact mul_le_mul_right _ kH
 have mZ:xs.length*i.size+(eU sb).length<=cur.size:=by
  rw[h1,g2];exact hmul
 have bK:=so (P:=P) w t u ty el i ht hu hi (L n).bh xs.length (L n).cap cur g1 dE sb h3 kH mZ
 have eh:=fm.append (I:=I) (L:=L) (O:=O) (s:=i.size) (xs:=xs) (ys:=(dt sb)) (c:=cur) (d:=(eU sb).toArray) g6 h4 (cur.toList.drop (xs.length*i.size+(eU sb).length)) (cur.toList.take (xs.length*i.size))
  (by simp only[length_take,Array.length_toList];omega) (λ k hk=>by rw[getElem?_take,if_pos hk,Array.getElem?_toList])
 have dY:=hinv.put (n:=n) (l:=L n) (e:=el) (s:=i.size) (xs:=xs++(dt sb)) (O':=O.set n (.live el i.size (xs++(dt sb)))) (w':=w.setRow (L n).bh (cur.toList.take (xs.length*i.size)++eU sb++cur.toList.drop (xs.length*i.size+(eU sb).length)).toArray)
  (lv mv _) (by simp) (λ b' _ lh=>setRow_other w _ _ _ lh) rfl rfl rfl (by simp) (.inr ⟨_,_,_,hn,rfl⟩)
  ⟨_,⟨_,setRow_heap w _ cur _ _ _ g1,dE.size (by simp only[size_toArray,length_append,length_take,length_drop,Array.length_toList];omega)⟩,by simp only[size_toArray,length_append,length_take,length_drop,Array.length_toList];omega,by simpa using kH,g4,g5,eh⟩
  (λ _=> .inl ⟨xs,hn,by simp,λ _=>rfl⟩)
 refine⟨_,_,_,_,dY,?_,bK⟩;have:=R.cq (I:=I) (L:=λ k=>if k=n then L n else L k) (O:=O.set n (.live el i.size (xs++(dt sb)))) n (xs.length+(dt sb).length) el i.size (xs++(dt sb)) (by simp[mv]) (by simp);simpa using this
theorem ajT{t u ty el:Nat}{i:TypeInfo}{z0:Value}(ht:P.underlying t=some (.slice el))(hu:P.underlying u=some .string){sb:ByteArray}(hi:P.info? el=some i)(hz:i.zero=some z0)(yj:z0.cells.size=i.size)
  (hinv:Inv I L O w) {n:Nat} {xs:List AV} (h1s:i.size=1) (hn:O[n]? =some (.live el i.size xs)) (bB:(dt sb)≠[])
  (ov:(xs.length+(dt sb).length)*i.bytes<=140737488355328) (jH:xs.length+(dt sb).length<=maxLen) (kH:(L n).cap<xs.length+(dt sb).length):
  ∃y' I' L' w',Good I L O w I' L' (O.set n (.live el i.size (xs++(dt sb)))) w'/\R I' L' (O.set n (.live el i.size (xs++(dt sb)))) (.row n (xs.length+(dt sb).length)) y'/\
   (Builtin.append_ #[t,u] ty #[.slice (some ⟨(L n).bh,0,none⟩) xs.length (L n).cap,.string sb]).run P w= .ok y' w':=by
 obtain⟨h1,h3,h4⟩:=lU (I:=I) (L:=L) (O:=O) (sb:=sb) h1s;obtain⟨cur,⟨kR,g1,dE⟩,g2,g3,g4,g5,g6⟩:=hinv.obj n _ _ xs hn;have mv:n<O.length:=(List.getElem?_eq_some_iff.1 hn).1;have hm:xs.length+(dt sb).length<=9223372036854775807:=by simpa [maxLen]using jH
 have rR:0<(dt sb).length:=List.length_pos_iff.2 bB
 have holds:(cur.toList.take (xs.length*i.size)).length=xs.length*i.size:=by
  simp only[length_take,Array.length_toList,g2];exact min_eq_left (mul_le_mul_right _ g3)
 have bK:=sr (P:=P) w t u ty el i z0 ht hu hi hz ⟨(L n).bh,0,none⟩ xs.length (L n).cap (cur.toList.take (xs.length*i.size)) holds (λ j v hv=>by
  rw[add_lit,zero_add,eN g1];rw[getElem?_take]at hv
  split at hv
  ·simpa using hv
  ·cases hv) sb (by omega) (by omega) (growslice_fits (by omega) ov)
 have hge:=grownCap_ge w (xs.length+(dt sb).length) (L n).cap el;have hle:=grownCap_le_maxLen w (xs.length+(dt sb).length) (L n).cap el jH;generalize grownCap w (xs.length+(dt sb).length) (L n).cap el=cap at*
 have eh:=fm.append (I:=I) (L:=L) (O:=O) (s:=i.size) (xs:=xs) (ys:=(dt sb)) (c:=cur) (d:=(eU sb).toArray) g6 h4 (Builtin.zeroCells z0.cells (cap- (xs.length+(dt sb).length))).toList (cur.toList.take (xs.length*i.size))
  holds (λ k hk=>by rw[getElem?_take,if_pos hk,Array.getElem?_toList])
 have yq:=(Good.drawn hinv (w.drawn+1))
 have dY:=yq.inv.put (n:=n) (l:=Loc.at w.heap.size (cap)) (e:=el) (s:=i.size) (xs:=xs++(dt sb)) (O':=O.set n (.live el i.size (xs++(dt sb))))
  (w':=w.drew.alloc (.cells ((cur.toList.take (xs.length*i.size)).toArray++(eU sb).toArray++Builtin.zeroCells z0.cells (cap- (xs.length+(dt sb).length))) el))
  (lv mv _) (by simp) (λ b' lh _=>heap_alloc_old w.drew _ b' lh) rfl rfl rfl (by rw[World.size_alloc];exact le_succ _) (.inl (le_refl _))
  ⟨_,⟨_,heap_alloc_new w.drew _,.inl rfl⟩,by
     simp only[Array.size_append,size_zeroCells,yj,size_toArray,holds,h1];rw[←add_mul,←add_mul];congr 1;omega,by simpa using hge,hle,g5,fm.jZ eh⟩
  (λ _=> .inl ⟨xs,hn,by simp,λ he=>by simp at he;exact(bB he).elim⟩)
 refine⟨_,_,_,_,yq.trans dY,?_,bK⟩;have:=R.cq (I:=I) (L:=λ k=>if k=n then Loc.at w.heap.size (cap)else L k) (O:=O.set n (.live el i.size (xs++(dt sb)))) n (xs.length+(dt sb).length) el i.size (xs++(dt sb)) (by simp[mv]) (by simp);simpa using this
theorem anC{t u ty el s by_:Nat}{z:AV}(ht:P.underlying t=some (.slice el))(hu:P.underlying u=some .string)(fw:mj P el=some (s,by_,z)){x:AV}{vx:Value}{sb:ByteArray}
  (hinv:Inv I L O w) (hx:R I L O x vx) (vO:s=1) (hk:gY O x el s by_ (dt sb) K):
  ∃x' O' y' I' L' w',K x' O'/\Good I L O w I' L' O' w'/\R I' L' O' x' y'/\(Builtin.append_ #[t,u] ty #[vx,.string sb]).run P w= .ok y' w':=by
 obtain⟨i,z0,hi,hz,hz0,sd,hby,hzl,h0,yj,om⟩:=e8 fw;subst sd;subst hby;have amq:dt sb= []->sb.size=0:=λ h=>by have:=mB sb;rw[h]at this;simpa using this.symm
 cases x
 case aw=>
  obtain⟨ov,jH,hk0,uY⟩:=hk;cases hx;by_cases bB:dt sb= []
  ·exact⟨_,O,_,I,L,w,hk0 bB,.refl hinv,.aw,m7 ht hu hi none 0 0 (le_refl _) (amq bB) w⟩
  ·obtain⟨y',I',L',w',q1,q2,q3⟩:=anD ht hu hi hz h0 yj hinv vO bB ov jH;exact⟨_,_,y',I',L',w',uY bB,q1,q2,q3⟩
 case row n len=>
  cases hn:O[n]? with
  |none=>simp only[gY,hn]at hk
  |some ob=>
   cases ob with
   |dead=>simp only[gY,hn]at hk
   |own a=>simp only[gY,hn]at hk
   |dc g=>simp only[gY,hn]at hk
   |nil t' s'=>
    simp only[gY,hn]at hk;obtain⟨rfl,rfl,rfl,ov,jH,hk0,uY⟩:=hk;obtain⟨rfl,_⟩:=hx.kf hn;by_cases bB:dt sb= []
    ·exact⟨_,O,_,I,L,w,hk0 bB,.refl hinv,.fY n _ _ hn,m7 ht hu hi none 0 0 (le_refl _) (amq bB) w⟩
    ·obtain⟨y',I',L',w',q1,q2,q3⟩:=agL ht hu hi hz h0 yj hinv hn vO bB ov jH;exact⟨_,_,y',I',L',w',uY bB,q1,q2,q3⟩
   |live t' s' xs=>
    simp only[gY,hn]at hk;obtain⟨rfl,rfl,hlen,ov,jH,hk⟩:=hk;have hv:=hx.ep hn hlen;subst hv;subst hlen;have mv:n<O.length:=(List.getElem?_eq_some_iff.1 hn).1;by_cases bB:dt sb= []
    ·obtain⟨cur,⟨kR,g1,dE⟩,g2,g3,g4,g5,g6⟩:=hinv.obj n _ _ xs hn
     have hO:O.set n (.live t' i.size (xs++dt sb))=O:=by
      rw[bB,append_nil];apply ext_getElem?;intro k;rw[lv mv];split
      ·rename_i ot;rw[ot,hn]
      ·rfl
     rw[hO,bB]at hk;exact⟨_,O,_,I,L,w,hk,.refl hinv,by simpa using hx,m7 ht hu hi _ xs.length _ g3 (amq bB) w⟩
    ·by_cases kH:xs.length+(dt sb).length<=(L n).cap
     ·obtain⟨y',I',L',w',q1,q2,q3⟩:=ajS ht hu hi hinv vO hn kH;exact⟨_,_,y',I',L',w',hk,q1,q2,q3⟩
     ·obtain⟨y',I',L',w',q1,q2,q3⟩:=ajT ht hu hi hz yj hinv vO hn bB ov jH (by omega);exact⟨_,_,y',I',L',w',hk,q1,q2,q3⟩
 all_goals exact hk.elim
theorem aoz(hi:Inv I L O w){ty s t el:TypeId}{pos:String}{af:Array Edge}{g:Option (Nat×Bool)}{d:Option Tmp}(hs:P.underlying s=some .string)(ht:P.underlying t=some (.slice el))(hu:zw P el=true)(he:∀t,R I L O (e t) (a.tmps.getD t undef)){x:Operand}{ax:aI}(hx:bL x=some ax)(hk:wpOp P (.s2b el ax) e O K):
  fx P I L O w (execOp a.eval ⟨d,.convert s t x,ty,pos,af,g⟩) K:=by
 have he8:P.underlying el=some (.int .u8):=by
  unfold zw at hu
  split at hu
  ·assumption
  ·cases hu
 have rx:=an hx he;simp only[wpOp]at hk
 split at hk
 ·rename_i sb hsb;rw[hsb]at rx;have hv:=rx.exact;obtain⟨jH,hk⟩:=hk;have bK:=run_bytes_of_string (P:=P) w s t el sb hs ht he8;have hge:=grownCap_ge w sb.size 0 el;have hle:=grownCap_le_maxLen w sb.size 0 el jH;generalize grownCap w sb.size 0 el=cap at*;obtain⟨h1,h3,h4⟩:=lU (I:=I) (L:=L) (O:=O) (sb:=sb) (s:=1) rfl;have dY:=(Good.drawn hi (w.drawn+1))
  have sd:(bytesRow sb cap).size=cap*1:=by
   have:sb.data.size=sb.size:=rfl;simp[bytesRow];omega
  have eh:fm I L O 1 (dt sb) (bytesRow sb cap):=by
   intro i y hy;obtain⟨q1,q2⟩:=h4 i y hy;refine⟨q1,λ j b hj=> ?_⟩;obtain⟨u,hu1,hu2,hu3⟩:=q2 j b hj;refine⟨u,?_,hu2,hu3⟩;unfold bytesRow;rw[Array.getElem?_append];have aF:=(Array.getElem?_eq_some_iff.1 hu1).1;rw[tK]at aF hu1;rw[if_pos aF];exact hu1
  have hlen:(dt sb).length=sb.size:=mB sb;have dL:=dY.inv.av8 (e:=el) (s:=1) (xs:=dt sb) (bytesRow sb cap) cap (m:=((bytesRow sb cap).size,(bytesRow sb cap).size+1)) (.inr ⟨rfl,rfl⟩) sd (by omega) hle (by omega) eh;refine⟨_,_,_,_,_,_,hk,dY.trans dL,?_,.inl (by simp only[execOp,hv];rw[Sem.run_bind,bK];rfl)⟩;have:=R.cq (I:=I) (L:=λ k=>if k=O.length then Loc.at w.heap.size (cap)else L k) (O:=O++ [.live el 1 (dt sb)]) O.length (dt sb).length el 1 (dt sb) (by simp) rfl;rw[hlen]at this;rw[if_pos rfl]at this;exact this
 ·exact hk.elim
theorem ais(hi:Inv I L O w){ty t el:TypeId}{pos:String}{af:Array Edge}{g:Option (Nat×Bool)}{d:Option Tmp}(ht:P.underlying t=some (.slice el))(hu:zw P el=true)(he:∀t,R I L O (e t) (a.tmps.getD t undef)){x:Operand}{ax:aI}(hx:bL x=some ax)(hk:wpOp P (.xI el ax) e O K):
  fx P I L O w (execOp a.eval ⟨d,.convert t t x,ty,pos,af,g⟩) K:=by
 have he8:P.underlying el=some (.int .u8):=by
  unfold zw at hu
  split at hu
  ·assumption
  ·cases hu
 have rx:=an hx he;simp only[wpOp]at hk
 split at hk
 ·rename_i n len hn
  split at hk
  ·rename_i t' s xs hO;obtain⟨rfl,rfl,rfl,hk⟩:=hk;rw[hn]at rx;have hv:=rx.ep hO rfl;obtain⟨c,⟨kR,g1,dE⟩,g2,g3,g4,g5,g6⟩:=hi.obj n _ _ xs hO;have aF:=(Array.getElem?_eq_some_iff.1 g1).1;have mv:=(List.getElem?_eq_some_iff.1 hO).1;have as7:w.shape? (L n).bh=some (t',c.size):=by unfold World.shape?;rw[g1]
   have amv:(w.freeze ⟨(L n).bh,c.size,none⟩ 1).heap=w.heap.setIfInBounds (L n).bh (.cells c t' (c.size,c.size+1)):=by
    unfold World.freeze;rw[if_neg (by decide)];apply Array.ext_getElem?;intro i;simp only[Array.getElem?_modify,Array.getElem?_setIfInBounds];by_cases h:(L n).bh=i
    ·subst h;rw[if_pos rfl,if_pos rfl,if_pos aF,g1];simp only[map_some];rcases dE with rfl|⟨rfl,_⟩
     ·simp
     ·simp
    ·rw[if_neg h,if_neg h]
   have dY:=hi.put (n:=n) (l:=L n) (e:=t') (s:=1) (xs:=xs) (O':=O) (w':=w.freeze ⟨(L n).bh,c.size,none⟩ 1)
    (λ k=>by by_cases h:k=n
             ·subst h;rw[if_pos rfl,hO]
             ·rw[if_neg h]) (le_refl _) (λ b hb bB=>by rw[amv];simp[Ne.symm bB]) (by unfold World.freeze;rw[if_neg (by decide)]) (by unfold World.freeze;rw[if_neg (by decide)]) (by unfold World.freeze;rw[if_neg (by decide)]) (by rw[amv];simp) (.inr ⟨_,_,_,hO,rfl⟩)
    ⟨c,⟨_,by rw[amv];simp[aF],.inr ⟨rfl,rfl⟩⟩,g2,g3,g4,g5,g6⟩ (λ _=> .inl ⟨xs,hO,le_refl _,λ _=>rfl⟩)
   have hL:(λ k=>if k=n then L n else L k)=L:=by
    funext k
    by_cases h:k=n
    ·subst h;rw[if_pos rfl]
    ·rw[if_neg h]
   rw[hL]at dY
   have bK:(convert t t (.slice (some ⟨(L n).bh,0,none⟩) xs.length (L n).cap)).run P w= .ok (.slice (some ⟨(L n).bh,0,none⟩) xs.length (L n).cap) (w.freeze ⟨(L n).bh,c.size,none⟩ 1):=by
    simp[convert,run_underlying ht,run_underlying he8,markStringish,as7]
   refine⟨_,_,_,_,_,_,hk,dY,?_,.inl (by simp only[execOp,hv];rw[Sem.run_bind,bK];rfl)⟩;exact R.cq (I:=I) (L:=L) (O:=O) n xs.length t' 1 xs hO rfl
  ·exact hk.elim
 ·exact hk.elim
end
end Go.Ab
namespace Go.Ab
section
variable {P:Program} {I:dv} {L:Nat->Loc} {O:List ae} {w:World} {K:AV->List ae->Prop} {e:Env} {a:Act}
variable {d:Option Tmp} {ty:TypeId} {pos:String} {af:Array Edge} {g:Option (Nat×Bool)} {ao:ew}
theorem aoA(hi:Inv I L O w)(he:∀t,R I L O (e t) (a.tmps.getD t undef)){x:Operand}(hc:b8 P ty (.move x)=some ao)(hk:wpOp P ao e O K):
  fx P I L O w (execOp a.eval ⟨d,.move x,ty,pos,af,g⟩) K:=by
 simp only[b8,bind_eq_bind,bind_eq_some_iff,Option.some.injEq]at hc;obtain⟨ax,hx,rfl⟩:=hc;exact fx.same hi hk (an hx he) rfl
theorem afs(hi:Inv I L O w)(he:∀t,R I L O (e t) (a.tmps.getD t undef)){x:Operand}(hc:b8 P ty (.assign x)=some ao)(hk:wpOp P ao e O K):
  fx P I L O w (execOp a.eval ⟨d,.assign x,ty,pos,af,g⟩) K:=by
 simp only[b8,bind_eq_bind,bind_eq_some_iff,Option.some.injEq]at hc;obtain⟨ax,hx,rfl⟩:=hc;exact fx.same hi hk (an hx he) rfl
theorem akN(hi:Inv I L O w)(he:∀t,R I L O (e t) (a.tmps.getD t undef)){x y z:Operand}(hc:b8 P ty (.pick x y z)=some ao)(hk:wpOp P ao e O K):
  fx P I L O w (execOp a.eval ⟨d,.pick x y z,ty,pos,af,g⟩) K:=by
 simp only[b8,bind_eq_bind,bind_eq_some_iff,Option.some.injEq]at hc;obtain⟨ax,hx,ay,hy,az,hz,rfl⟩:=hc;have rx:=an hx he;simp only[wpOp]at hk
 split at hk
 ·rename_i t ht;rw[ht]at rx;have:=rx.bool;refine fx.same hi hk (y:=if t=true then a.eval y else a.eval z) ?_ ?_
  ·cases t
   ·simpa using an hz he
   ·simpa using an hy he
  ·simp[execOp,this,asBool]
 ·exact hk.elim
theorem aix(hi:Inv I L O w){t:TypeId}(hc:b8 P ty (.alloc t)=some ao)(hk:wpOp P ao e O K):
  fx P I L O w (execOp a.eval ⟨d,.alloc t,ty,pos,af,g⟩) K:=by
 simp only[b8,bind_eq_bind,bind_eq_some_iff,Option.some.injEq]at hc;obtain⟨⟨s,b,z⟩,hz,rfl⟩:=hc;obtain⟨i,z0,h1,h2,h3,rfl,rfl,h4,h5,h6,h7⟩:=e8 hz;obtain⟨q1,q2⟩:=hi.box t (eO (I:=I) (L:=L) (O:=O) h3) h7 h4 h5;exact⟨_,_,_,_,_,_,hk,q1,q2,.inl (by simp[execOp,Instr.alloc,zeroValue,typeInfo,h1,h2,newVar,newRow])⟩
theorem aoF(hi:Inv I L O w)(he:∀t,R I L O (e t) (a.tmps.getD t undef)){t:TypeId}{x:Operand}(hc:b8 P ty (.box t x)=some ao)(hk:wpOp P ao e O K):
  fx P I L O w (execOp a.eval ⟨d,.box t x,ty,pos,af,g⟩) K:=by
 simp only[b8,bind_eq_bind,bind_eq_some_iff]at hc;obtain⟨i,eE,hc⟩:=hc
 split at hc
 ·rename_i hs;simp only[bind_eq_some_iff,Option.some.injEq]at hc;obtain⟨ax,hx,rfl⟩:=hc;obtain⟨h1,h2,h3⟩:=hk;obtain⟨q1,q2⟩:=hi.box t (an hx he) h2 h1 hs;exact⟨_,_,_,_,_,_,h3,q1,q2,.inl (by simp[execOp,Instr.box,newVar,newRow])⟩
 ·cases hc
theorem akS(hi:Inv I L O w)(he:∀t,R I L O (e t) (a.tmps.getD t undef)){t:TypeId}{x:Operand}(hc:b8 P ty (.load t x)=some ao)(hk:wpOp P ao e O K):
  fx P I L O w (execOp a.eval ⟨d,.load t x,ty,pos,af,g⟩) K:=by
 simp only[b8,bind_eq_bind,bind_eq_some_iff,Option.some.injEq]at hc;obtain⟨n,hn,ax,hx,rfl⟩:=hc;have rx:=an hx he;simp only[wpOp]at hk;generalize ax.ev e=A at rx hk;generalize hX:a.eval x=X at rx;cases A
 case ct y f=>
  obtain⟨h1,h2⟩:=hk;cases rx with
  |ct _ _ bh base bA hv hr=>
   have cz:∀j,j<n.getD 1->∃c,y.cells[f+j]? =some c:=λ j hj=>⟨y.cells[f+j]'(by omega),by simp⟩
   have bK:=ru (P:=P) (t:=t) hn bh (base+f) (λ j=>bA (f+j)) w (λ j hj=>by
    obtain⟨c,hc⟩:=cz j hj;rw[add_assoc];exact hi.j4 _ _ _ (hv _ c hc).1)
   refine fx.same hi h2 (mL (bA:=λ j=>bA (f+j)) h1 λ j c hj aF=>hr _ c hj) ?_;simp only[execOp,hX];simp[bK]
 case ptr k len i f=>
  cases hO:O[k]? with
  |none=>simp only[hO]at hk
  |some ob=>
   cases ob with
   |dead=>simp only[hO]at hk
   |own a=>simp only[hO]at hk
   |dc g=>simp only[hO]at hk
   |nil t' s'=>simp only[hO]at hk
   |live t' s xs=>
    simp only[hO]at hk;obtain⟨hl,aF,hf,hk⟩:=hk;have:=rx.gQ hO hl;subst this;obtain⟨c,⟨kR,g1,dE⟩,g2,g3,g4,g5,g6⟩:=hi.obj k _ _ xs hO;have hx':xs[i]? =some (xs.getD i .top):=by simp[List.getD,show i<xs.length by omega]
    obtain⟨g7,g8⟩:=g6 i _ hx';generalize xs.getD i .top=y at*
    have hex:∀j,∃u,j<n.getD 1->c[i*s+(f+j)]? =some u/\∀c',y.cells[f+j]? =some c'->R I L O c' u:=by
     intro j;by_cases hj:j<n.getD 1
     ·have fT:y.cells[f+j]? =some (y.cells[f+j]'(by omega)):=by simp
      obtain⟨u,hu,_,hr⟩:=g8 (f+j) _ fT;exact⟨u,λ _=>⟨hu,λ c'' h''=>by rw[fT]at h'';cases h'';exact hr⟩⟩
     ·exact⟨undef,λ h=>(hj h).elim⟩
    let bA:Nat->Value:=λ j=>(hex j).choose
    have adP:∀j,j<n.getD 1->c[i*s+(f+j)]? =some (bA j)/\∀c',y.cells[f+j]? =some c'->R I L O c' (bA j):=λ j hj=>(hex j).choose_spec hj
    have bK:=ru (P:=P) (t:=t) hn (L k).bh (i*s+f) bA w (λ j hj=>by
     rw[eN g1,add_assoc];exact(adP j hj).1)
    refine fx.same hi hk (mL (bA:=bA) hf λ j c' hj oq=>(adP j oq).2 c' hj) ?_;simp only[execOp,hX];simp[bK]
 all_goals exact hk.elim
theorem zQ{x y:AV}{f:Nat}(hf:f+y.cells.length<=x.cells.length)(j:Nat):
  (qC x f y).cells.length=x.cells.length/\(qC x f y).cells[j]? =if f<=j/\j<f+y.cells.length then y.cells[j- f]? else x.cells[j]? :=by
 unfold qC
 split
 ·rename_i h;obtain⟨rfl,hl⟩:=h;refine⟨hl,?_⟩
  split
  ·simp
  ·rename_i hn;rw[getElem?_eq_none (by omega),getElem?_eq_none (by omega)]
 ·generalize nU:x.cells=xs at*;generalize tg:y.cells=ys at*
  show(xs.take f++ys++xs.drop (f+ys.length)).length=xs.length/\(xs.take f++ys++xs.drop (f+ys.length))[j]? =_;refine⟨by simp;omega,?_⟩
  split
  ·rename_i h;rw[append_assoc,getElem?_append_right (by simp;omega),getElem?_append_left (by simp;omega)];congr 1;simp;omega
  ·rename_i h;by_cases aF:j<f
   ·rw[append_assoc,getElem?_append_left (by simp;omega),getElem?_take,if_pos aF]
   ·rw[getElem?_append_right (by simp;omega),getElem?_drop];congr 1;simp;omega
theorem aio(hi:Inv I L O w)(he:∀t,R I L O (e t) (a.tmps.getD t undef)){t:TypeId}{x y:Operand}(hc:b8 P ty (.store t x y)=some ao)(hk:wpOp P ao e O K):
  fx P I L O w (execOp a.eval ⟨d,.store t x y,ty,pos,af,g⟩) K:=by
 simp only[b8,bind_eq_bind,bind_eq_some_iff,Option.some.injEq]at hc;obtain⟨inf,sV,ax,hx,ay,hy,rfl⟩:=hc;have rx:=an hx he;have ry:=an hy he;simp only[wpOp]at hk;generalize ax.ev e=A at rx hk;generalize ay.ev e=B at ry hk;generalize hX:a.eval x=X at rx;generalize hY:a.eval y=Y at ry;cases A
 case ptr k len i f=>
  cases hO:O[k]? with
  |none=>simp only[hO]at hk
  |some ob=>
   cases ob with
   |dead=>simp only[hO]at hk
   |own a=>simp only[hO]at hk
   |dc g=>simp only[hO]at hk
   |nil t' s'=>simp only[hO]at hk
   |live t' s xs=>
    simp only[hO]at hk;obtain⟨hl,aF,hm,om,hf,hk⟩:=hk;have:=rx.gQ hO hl;subst this;obtain⟨c,⟨kR,g1,dE⟩,g2,g3,g4,g5,g6⟩:=hi.obj k _ _ xs hO;have azP:k<O.length:=(List.getElem?_eq_some_iff.1 hO).1;have hx':xs[i]? =some (xs.getD i .top):=by simp[List.getD,show i<xs.length by omega]
    obtain⟨g7,g8⟩:=g6 i _ hx';obtain⟨r1,r2⟩:=ry.pS om;have ym:=ry.aup om;have hYl:Y.cells.toList.length=B.cells.length:=by simp[r1]
    have eh:=ab9 (s:=s) (show i<xs.length by omega) (show s- 1<s by omega);have axi:xs.length*s<=c.size:=by rw[g2];exact mul_le_mul_right _ g3
    have mZ:i*s+f+0+Y.cells.toList.length<=c.size:=by omega
    have bK:=hZ (P:=P) (L k).bh (i*s+f) s t' kR Y.cells.toList 0 c w g1 dE mZ ym
    have hc2:∀j:Nat,((c.toList.take (i*s+f+0)++Y.cells.toList++c.toList.drop (i*s+f+0+Y.cells.toList.length)).toArray)[j]? =if i*s+f<=j/\j<i*s+f+B.cells.length then Y.cells[j- (i*s+f)]? else c[j]? :=by
     intro j;simp only[getElem?_toArray,add_zero]
     split
     ·rename_i h;rw[append_assoc,getElem?_append_right (by simp;omega),getElem?_append_left (by simp;omega),Array.getElem?_toList];congr 1;simp;omega
     ·rename_i h;by_cases oq:j<i*s+f
      ·rw[append_assoc,getElem?_append_left (by simp;omega),getElem?_take,if_pos oq,Array.getElem?_toList]
      ·rw[getElem?_append_right (by simp;omega),getElem?_drop,Array.getElem?_toList];congr 1;simp;omega
    generalize hC2:(c.toList.take (i*s+f+0)++Y.cells.toList++c.toList.drop (i*s+f+0+Y.cells.toList.length)).toArray=c2 at*;have axk:c2.size=c.size:=by rw[←hC2];simp;omega
    have dY:=hi.put (n:=k) (l:=L k) (e:=t') (s:=s) (xs:=xs.set i (qC (xs.getD i .top) f B)) (O':=O.set k (.live t' s (xs.set i (qC (xs.getD i .top) f B)))) (w':=w.setRow (L k).bh c2)
     (lv azP _) (by simp) (λ b' _ lh=>setRow_other w _ _ _ lh) rfl rfl rfl (by simp) (.inr ⟨_,_,_,hO,rfl⟩)
     ⟨c2,⟨_,setRow_heap w _ c _ _ _ g1,dE.size axk⟩,by rw[axk,g2],by simpa using g3,g4,g5,by
      intro i' z hz;rw[List.getElem?_set]at hz;by_cases hii:i=i'
      ·subst hii;rw[if_pos rfl,if_pos (by omega)]at hz;cases hz;refine⟨by rw[(zQ (by omega) 0).1,g7],λ j q hj=> ?_⟩;rw[(zQ (by omega) j).2]at hj;by_cases hj':f<=j/\j<f+B.cells.length
       ·rw[if_pos hj']at hj;obtain⟨u,hu,ho,hr⟩:=r2 _ q hj;refine⟨u,?_,ho,hr⟩;rw[hc2,if_pos (by omega),←hu];congr 1;omega
       ·rw[if_neg hj']at hj;obtain⟨u,hu,ho,hr⟩:=g8 j q hj;refine⟨u,?_,ho,hr⟩;rw[hc2,if_neg (by omega),hu]
      ·rw[if_neg hii]at hz;obtain⟨q1,q2⟩:=g6 i' z hz;refine⟨q1,λ j q hj=> ?_⟩;obtain⟨u,hu,ho,hr⟩:=q2 j q hj;have hjs:j<s:=by rw[←q1];exact(List.getElem?_eq_some_iff.1 hj).1
       refine⟨u,?_,ho,hr⟩;have bB:=al1 (i:=i') (i':=i) hjs (λ h=>hii h.symm);rw[hc2,if_neg (by omega),hu]⟩
     (λ _=> .inl ⟨xs,hO,by simp,λ _=>rfl⟩)
    refine⟨_,_,undef,_,_,_,hk,dY,.top _,.inr ⟨?_,rfl⟩⟩;have sd:Y.cells.size=inf.size:=by omega
    simp only[execOp,hX,hY];simp[Instr.storeAt,Instr.sureAddr,storeVar,sizeOf,typeInfo,sV,sd,bK]
 all_goals exact hk.elim
end
end Go.Ab
namespace Go.Ab
theorem Inv.xj{I:dv}{L:Nat->Loc}{O O':List ae}{w w':World}{n:Nat}{l:Loc}{g:gr}(h:Inv I L O w)
  (hO:∀k:Nat,O'[k]? =if k=n then some (.dc g)else O[k]?) (hlen:O.length<=O'.length)
  (hw:∀b,b<w.heap.size->b≠l.bh->w'.heap[b]? =w.heap[b]?)
  (hos:w'.os=w.os) (al9:w'.tape=w.tape) (as9:w'.output=w.output) (adQ:w.heap.size<=w'.heap.size)
  (hl:(O.length<=n/\w.heap.size<=l.bh)∨∃g0,O[n]? =some (.dc g0)/\g0.lY=g.lY/\l.bh=(L n).bh)
  (mr:Ext I L O I (λ k=>if k=n then l else L k) O'->qY I (λ k=>if k=n then l else L k) O' w' l g):
  Good I L O w I (λ k=>if k=n then l else L k) O' w':=by
 have du:Ext I L O I (λ k=>if k=n then l else L k) O':=by
  refine⟨λ _ _ _ h=>h,hlen,λ k hk e' s' gZ hx=> ?_,λ k hk e' s' hx=> ?_,λ k hk a hx=> ?_,λ k hk a hx=> ?_⟩
  ·rw[hO]at hx;by_cases eH:k=n
   ·rw[if_pos eH]at hx;cases hx
   ·rw[if_neg eH]at hx;exact .inl ⟨gZ,hx,le_refl _,λ _=>by simp[eH]⟩
  ·rw[hO]at hx;by_cases eH:k=n
   ·rw[if_pos eH]at hx;cases hx
   ·rwa [if_neg eH]at hx
  ·rw[hO]at hx;by_cases eH:k=n
   ·rw[if_pos eH]at hx;cases hx
   ·rw[if_neg eH]at hx;exact⟨⟨a,hx⟩,by simp only[if_neg eH]⟩
  ·rw[hO]at hx;by_cases eH:k=n
   ·subst eH;rw[if_pos rfl]at hx;cases hx;rcases hl with⟨h1,_⟩|⟨g0,h1,h2,h3⟩
    ·omega
    ·exact⟨⟨g0,h1,h2⟩,by simp only[if_true];exact h3⟩
   ·rw[if_neg eH]at hx;exact⟨⟨a,hx,rfl⟩,by simp only[if_neg eH]⟩
 have gg:∀b,(b<w.heap.size/\∃c e z,w.heap[b]? =some (.cells c e z))->w'.heap[b]? =w.heap[b]? :=by
  rintro b ⟨hb,c,e,z,hc⟩;refine hw b hb λ he=> ?_
  rcases hl with⟨_,h1⟩|⟨g0,h1,_,h3⟩
  ·omega
  ·exact(h.gh.ok n g0 h1).no.2 c e z (by rw[←h3,←he];exact hc)
 have lg:∀{b o:Nat} {x:Value},w.cell? ⟨b,o,none⟩=some x->w'.heap[b]? =w.heap[b]? :=by
  intro b o x hx;refine gg b ⟨j5 hx,?_⟩;unfold World.cell? at hx
  split at hx
  ·rename_i c e f hh;exact⟨c,e,f,hh⟩
  ·cases hx
 have hlv:∀{k e s:Nat} {xs:List AV},O[k]? =some (.live e s xs)->w'.heap[(L k).bh]? =w.heap[(L k).bh]? :=by
  intro k e s xs hk;obtain⟨c,⟨kR,h1,dE⟩,_⟩:=h.obj k e s xs hk;exact gg _ ⟨(Array.getElem?_eq_some_iff.1 h1).1,c,e,kR,h1⟩
 have gB:∀{k:Nat} {ob:ae},O'[k]? =some ob->(∀g',ob≠ .dc g')->O[k]? =some ob/\k≠n:=by
  intro k ob hk bB;rw[hO]at hk;by_cases eH:k=n
  ·rw[if_pos eH]at hk;cases hk;exact(bB g rfl).elim
  ·rw[if_neg eH]at hk;exact⟨hk,eH⟩
 have hfx:∀b,b<w.heap.size->¬LB L O b->w'.heap[b]? =w.heap[b]? :=λ b hb hn=>by
  refine hw b hb λ he=> ?_
  rcases hl with⟨_,h1⟩|⟨g0,h1,_,h3⟩
  ·omega
  ·exact hn (.inr (.inr ⟨n,g0,h1,by rw[←h3,he]⟩))
 have how:Own I (λ k=>if k=n then l else L k) O' w':=by
  refine⟨λ k a hk=> ?_,λ k a hk b o v hv=> ?_,λ k a hk b o v hv o'=> ?_,λ k a hk b o v hv m e' s' gZ hm hb=> ?_,λ k m a c hk hm b o o' v v' hv jO=> ?_,λ k a hk=> ?_⟩
  ·obtain⟨h1,h2⟩:=gB hk (by simp);simp only[if_neg h2];exact h.ow.tree k a h1
  ·obtain⟨h1,h2⟩:=gB hk (by simp);simp only[if_neg h2]at hv;have h3:=h.ow.cell k a h1 b o v hv;rw[←h3];exact World.cell?_of_block (a:=⟨b,o,none⟩) (lg h3)
  ·obtain⟨h1,h2⟩:=gB hk (by simp);simp only[if_neg h2]at hv;exact h.ow.j4 k a h1 b o v hv o'
  ·obtain⟨h1,h2⟩:=gB hk (by simp);obtain⟨h3,h4⟩:=gB hm (by simp);simp only[if_neg h2]at hv;simp only[if_neg h4]at hb;exact h.ow.live k a h1 b o v hv m _ _ _ h3 hb
  ·obtain⟨h1,h2⟩:=gB hk (by simp);obtain⟨h3,h4⟩:=gB hm (by simp);simp only[if_neg h2]at hv;simp only[if_neg h4]at jO;exact h.ow.sep k m a c h1 h3 b o o' v v' hv jO
  ·obtain⟨h1,h2⟩:=gB hk (by simp);simp only[if_neg h2];obtain⟨S,p1,p2⟩:=h.ow.deep k a h1;refine⟨S,p1.congr λ b hb=> ?_,p2⟩;obtain⟨o,v,hv⟩:=(p2 b).1 hb;exact lg (h.ow.cell k a h1 b o v hv)
 have hgh:Gh I (λ k=>if k=n then l else L k) O' w':=by
  have bh:∀{k:Nat} {g':gr},k≠n->O[k]? =some (.dc g')->(L k).bh≠l.bh:=by
   intro k g' eH hk he;rcases hl with⟨_,h1⟩|⟨g0,h1,_,h3⟩
   ·have:=(h.gh.ok k g' hk).no.1;omega
   ·exact eH (h.gh.sep k n _ _ hk h1 (he.trans h3))
  refine⟨λ k g' hk=> ?_,λ k m g' g'' hk hm hb=> ?_⟩
  ·rw[hO]at hk;by_cases eH:k=n
   ·subst eH;rw[if_pos rfl]at hk;cases hk;simp only[if_true];exact mr du
   ·rw[if_neg eH]at hk;simp only[if_neg eH];exact(h.gh.ok k g' hk).mono rfl (λ _ _ hr=>hr.mono du) (hw _ (h.gh.ok k g' hk).no.1 (bh eH hk))
  ·rw[hO]at hk hm;by_cases eH:k=n<;>by_cases oo:m=n
   ·omega
   ·subst eH;simp only[if_true,if_neg oo]at hb hm;exact(bh oo hm hb.symm).elim
   ·subst oo;simp only[if_true,if_neg eH]at hb hk;exact(bh eH hk hb).elim
   ·simp only[if_neg eH,if_neg oo]at hb hk hm;exact h.gh.sep k m _ _ hk hm hb
 refine⟨⟨λ b o x hx=> ?_,λ k e' s' gZ hk=> ?_,λ k m e1 s1 xs1 e2 s2 xs2 hk hm hb=> ?_,λ k e1 s1 xs1 o hk=> ?_,h.fix,h.tb hfx (λ _ _ _ h=>h),how,hgh⟩,du,⟨hos,al9,as9,adQ,hfx⟩,?_,λ _ _ _ h=> .inl h⟩
 ·have h1:=h.j4 b o x hx;rw[←h1];exact World.cell?_of_block (a:=⟨b,o,none⟩) (lg h1)
 ·obtain⟨h1,h2⟩:=gB hk (by simp);simp only[if_neg h2];exact(h.obj k e' s' gZ h1).congr (hlv h1) λ a x=>R.mono du
 ·obtain⟨h1,h2⟩:=gB hk (by simp);obtain⟨h3,h4⟩:=gB hm (by simp);simp only[if_neg h2,if_neg h4]at hb;exact h.sep k m _ _ _ _ _ _ h1 h3 hb
 ·obtain⟨h1,h2⟩:=gB hk (by simp);simp only[if_neg h2];exact h.dS k _ _ _ o h1
 ·rintro b (⟨k,e',s',gZ,hk,hb⟩|⟨k,a,o,v,hk,hb⟩|⟨k,g',hk,hb⟩)
  ·obtain⟨h1,h2⟩:=gB hk (by simp);simp only[if_neg h2]at hb;exact .inl (.inl ⟨k,_,_,_,h1,hb⟩)
  ·obtain⟨h1,h2⟩:=gB hk (by simp);simp only[if_neg h2]at hb;exact .inl (.inr (.inl ⟨k,a,o,v,h1,hb⟩))
  ·rw[hO]at hk;by_cases eH:k=n
   ·subst eH;simp only[if_true]at hb;rcases hl with⟨_,h1⟩|⟨g0,h1,_,h3⟩
    ·exact .inr (by omega)
    ·exact .inl (.inr (.inr ⟨k,g0,h1,by rw[←h3,hb]⟩))
   ·rw[if_neg eH]at hk;simp only[if_neg eH]at hb;exact .inl (.inr (.inr ⟨k,g',hk,hb⟩))
theorem aiQ{P:Program}{w:World}(t:TypeId):(Instr.makeMap t none).run P w= .ok (.map (some w.heap.size)) (w.alloc (.map #[] 0)):=by
 simp[Instr.makeMap,newObj,Sem.run,Result.andThen]
theorem ah6{P:Program}{w:World}{t:TypeId}(h:P.underlying t=some .string)(s:ByteArray):(Instr.range t (.string s)).run P w= .ok (.pointer (some ⟨w.heap.size,0,none⟩)) (w.alloc (.stringIter s 0)):=by
 simp[Instr.range,underlying,h,newObj,Sem.run,Result.andThen]
theorem ah9{P:Program}{w:World}{r pos:Nat}{s:ByteArray}(h:w.heap[r]? =some (.stringIter s pos))(t:TypeId):
  (Instr.next (.pointer (some ⟨r,0,none⟩)) true t).run P w=if pos<s.size then .ok (.tuple #[.bool true,goInt pos,.int .i32 (Utf8.decode s pos).1]) {w with heap:=w.heap.set! r (.stringIter s (pos+(Utf8.decode s pos).2))}else .ok (.tuple #[.bool false]) w:=by
 by_cases hp:pos<s.size<;>simp[Instr.next,getObj,setObj,h,hp,Sem.run,Result.andThen]
theorem xU{d:TypeDesc}{a b:Value}(ha:MapKept.IsKey d a)(hb:MapKept.IsKey d b):af1 a b=true↔a=b:=by
 cases d<;>cases a<;>cases b<;>simp_all [MapKept.IsKey,af1]
theorem m6{I:dv}{L:Nat->Loc}{O:List ae}{d:TypeDesc}{k:Value}(hk:MapKept.IsKey d k):∀(es:List (AV×AV)) (l:List MapEntry) (i:Nat),l.length=es.length->
  (∀(j:Nat) a v,es[j]? =some (a,v)->∃e,l[j]? =some e/\R I L O a e.key/\R I L O v e.val)->(∀p∈es,∃k',p.1= .v k'/\MapKept.IsKey d k')->
  match mK k es i with
  |none=>Instr.findNow d k l i=some none
  |some (j,v)=>∃x,Instr.findNow d k l i=some (some (j,x))/\R I L O v x
 | [],l,i,hl,_,_=>by
   obtain rfl:=List.eq_nil_of_length_eq_zero hl
   rfl
 |(a,v)::es,l,i,hl,hr,yo=>by
  cases l with
  |nil=>simp at hl
  |cons e l=>
   obtain⟨k',h1,h2⟩:=yo (a,v) (by simp);simp only at h1;subst h1;obtain⟨e',h3,h4,h5⟩:=hr 0 (.v k') v rfl;simp at h3;subst h3;have h6:e.key=k':=by cases h4;rfl
   obtain⟨r,hs,ati⟩:=MapKept.sameNow_of_keys hk (show MapKept.IsKey d e.key by rw[h6];exact h2);rw[h6]at ati;by_cases hq:k=k'
   ·have hb:af1 k k'=true:=(xU hk h2).2 hq;have:r=true:=ati.2 hq;subst this;simp only[mK,hb,if_true];exact⟨e.val,by simp[Instr.findNow,hs],h5⟩
   ·have hb:¬af1 k k'=true:=λ h=>hq ((xU hk h2).1 h)
    have:r=false:=by
     cases r with
     |false=>rfl
     |true=>exact(hq (ati.1 rfl)).elim
    subst this;have ih:=m6 hk es l (i+1) (by simpa using hl) (λ j a v hj=>by simpa using hr (j+1) a v (by simpa using hj)) λ p hp=>yo p (by simp[hp])
    simp only[mK,if_neg hb];have hf:Instr.findNow d k (e::l) i=Instr.findNow d k l (i+1):=by simp[Instr.findNow,hs]
    rw[hf];exact ih
section
variable {P:Program} {w:World} {mty kt et:TypeId} {d:TypeDesc} {r clock:Nat} {en:Array MapEntry} {k:Value}
theorem ady(hm:P.underlying mty=some (.map kt et))(hd:P.underlying kt=some d)(hb:w.heap[r]? =some (.map en clock))(hk:MapKept.IsKey d k){z:Value}(hz:(zeroValue et).run P w= .ok z w)
  (hf:Instr.findNow d k en.toList 0=some none) (ok:Bool):(Instr.lookup mty (.map (some r)) k ok).run P w= .ok (if ok then .tuple #[z,.bool false]else z) w:=by
 cases ok<;>simp[Instr.lookup,run_underlying hm,MapKept.run_getObj_map hb,MapKept.run_checkKey hd hk,MapKept.run_findKey hd hf,hz,Result.andThen]
theorem adx(hm:P.underlying mty=some (.map kt et))(hd:P.underlying kt=some d)(hb:w.heap[r]? =some (.map en clock))(hk:MapKept.IsKey d k){j:Nat}{v:Value}
  (hf:Instr.findNow d k en.toList 0=some (some (j,v))) (ok:Bool):(Instr.lookup mty (.map (some r)) k ok).run P w= .ok (if ok then .tuple #[v,.bool true]else v) w:=by
 cases ok<;>simp[Instr.lookup,run_underlying hm,MapKept.run_getObj_map hb,MapKept.run_checkKey hd hk,MapKept.run_findKey hd hf,Result.andThen]
theorem acS(hm:P.underlying mty=some (.map kt et))(hd:P.underlying kt=some d)(hb:w.heap[r]? =some (.map en clock))(hk:MapKept.IsKey d k)(v:Value)
  (hf:Instr.findNow d k en.toList 0=some none):(Instr.mapUpdate mty (.map (some r)) k v).run P w= .ok () {w with heap:=w.heap.setIfInBounds r (.map (en.push {key:=k,val:=v,born:=clock}) (clock+1))}:=by
 simp[Instr.mapUpdate,run_underlying hm,MapKept.run_getObj_map hb,MapKept.run_checkKey hd hk,MapKept.run_findKey hd hf,MapKept.run_setObj_map _ hb,Result.andThen]
theorem acR(hm:P.underlying mty=some (.map kt et))(hd:P.underlying kt=some d)(hb:w.heap[r]? =some (.map en clock))(hk:MapKept.IsKey d k)(v:Value){j:Nat}{e:MapEntry}{u:Value}
  (hf:Instr.findNow d k en.toList 0=some (some (j,u))) (he:en[j]? =some e) (hek:e.key=k):
  (Instr.mapUpdate mty (.map (some r)) k v).run P w= .ok () {w with heap:=w.heap.setIfInBounds r (.map (en.modify j λ e=>{e with key:=k,val:=v}) clock)}:=by
 simp[Instr.mapUpdate,run_underlying hm,MapKept.run_getObj_map hb,MapKept.run_checkKey hd hk,MapKept.run_findKey hd hf,he,hek,MapKept.run_keyThatStays hk,MapKept.run_setObj_map _ hb,Result.andThen]
end
end Go.Ab
namespace Go.Ab
section
variable {P:Program} {I:dv} {L:Nat->Loc} {O:List ae} {w:World} {K:AV->List ae->Prop} {e:Env} {a:Act}
variable {d:Option Tmp} {ty:TypeId} {pos:String} {af:Array Edge} {g:Option (Nat×Bool)} {ao:ew}
theorem R.sw{n:Nat}{x:Value}{q:gr}(h:R I L O (.own n) x)(hO:O[n]? =some (.dc q)):x=q.val (L n).bh:=by
 cases h with
 |dV _ b h1=>rw[hO]at h1;cases h1
 |gF _ q' h1=>rw[hO]at h1;cases h1;rfl
 |eQ _ _ _ _ h1=>exact(h1 _ hO).elim
theorem KD.key{u:TypeDesc}{c:KD}(h:KD.of u=some c){k:Value}(hk:c.ok k=true):MapKept.IsKey u k:=by
 cases u<;>simp[KD.of]at h<;>subst h<;>cases k<;>simp_all [KD.ok,MapKept.IsKey]
theorem KD.keys{u:TypeDesc}{c:KD}(h:KD.of u=some c){es:List (AV×AV)}(hk:c.all es=true):∀p∈es,∃k',p.1= .v k'/\MapKept.IsKey u k':=by
 intro p hp;have:=List.all_eq_true.1 hk p hp
 split at this
 ·rename_i k hq;exact⟨k,hq,KD.key h this⟩
 ·cases this
theorem adu{k:Value}:∀(es:List (AV×AV)) (i j:Nat) (v:AV),mK k es i=some (j,v)->∃q k',j=i+q/\es[q]? =some (.v k',v)/\af1 k k'=true
 | [],_,_,_,h=>by simp[mK]at h
 |(p,u)::es,i,j,v,h=>by
  have step:mK k es (i+1)=some (j,v)->∃q k',j=i+q/\((p,u)::es)[q]? =some (.v k',v)/\af1 k k'=true:=λ h=>by
   obtain⟨q,k',h1,h2,h3⟩:=adu es (i+1) j v h;exact⟨q+1,k',by omega,by simpa using h2,h3⟩
  unfold mK at h
  split at h
  ·rename_i heq;simp at heq
  ·rename_i k' v' es' heq;cases heq
   split at h
   ·rename_i hq;cases h;exact⟨0,k',by omega,rfl,hq⟩
   ·exact step h
  ·rename_i heq;cases heq;exact step h
theorem air(hi:Inv I L O w){t:TypeId}{r:Option Operand}(hc:b8 P ty (.makeMap t r)=some ao)(hk:wpOp P ao e O K):fx P I L O w (execOp a.eval ⟨d,.makeMap t r,ty,pos,af,g⟩) K:=by
 cases r with
 |some _=>simp[b8]at hc
 |none=>
  simp only[b8,Option.some.injEq]at hc;subst hc
  have hg:=hi.xj (O':=O++ [.dc (.mp [])]) (w':=w.alloc (.map #[] 0)) (n:=O.length) (l:=Loc.at w.heap.size 0) (g:= .mp [])
   (λ k=>by
    by_cases h:k=O.length
    ·subst h;simp
    ·rw[if_neg h];by_cases hl:k<O.length
     ·exact getElem?_append_left hl
     ·rw[getElem?_eq_none (l:=O++ [ae.dc (gr.mp [])]) (by simp;omega),getElem?_eq_none (by omega)])
   (by simp) (λ b hb _=>(MapKept.heap_alloc w _).2 b hb) rfl rfl rfl (by simp) (.inl ⟨le_refl _,le_refl _⟩) (λ _=>⟨#[],0,(MapKept.heap_alloc w _).1,rfl,by simp⟩)
  have hr:=R.gF (I:=I) (L:=λ k=>if k=O.length then Loc.at w.heap.size 0 else L k) (O:=O++ [.dc (.mp [])]) O.length (.mp []) (by simp);refine⟨_,_,_,_,_,_,hk,hg,hr,.inl ?_⟩;simp[execOp,aiQ,gr.val,gr.lY,Result.andThen]
theorem rO{i:Nat}(h:eg O i=true):∃t s x,O[i]? =some (.live t s [x])/\s≠1:=by
 unfold eg at h
 split at h
 ·rename_i t s x hO;exact⟨t,s,x,hO,by simpa using h⟩
 ·cases h
theorem ql{i:Nat}{v:Value}(h:eg O i=true)(hr:R I L O (.ptr i 1 0 0) v):v= .pointer (some ⟨(L i).bh,0,none⟩):=by
 obtain⟨t,s,x,hO,_⟩:=rO h;have:=hr.gQ hO rfl;simpa using this
theorem adD(hi:Inv I L O w){i j:Nat}(h:eg O i=true)(k:eg O j=true):(sameAddr ⟨(L i).bh,0,none⟩ ⟨(L j).bh,0,none⟩).run P w= .ok (decide (i=j)) w:=by
 obtain⟨t,s,x,hO,hs⟩:=rO h;obtain⟨t',s',x',o9,hs'⟩:=rO k;by_cases hij:i=j
 ·subst hij;rw[run_sameAddr_same];simp
 ·obtain⟨c,⟨m,h1,hm⟩,_⟩:=hi.obj i _ _ _ hO;obtain⟨c',⟨m',h1',uX⟩,_⟩:=hi.obj j _ _ _ o9;have e1:m=(0,0):=by rcases hm with h|h;exact h;exact(hs h.2).elim
  have e2:m'=(0,0):=by rcases uX with h|h;exact h;exact(hs' h.2).elim
  subst e1;subst e2;rw[run_sameAddr_other w (λ h=>hij (hi.sep i j _ _ _ _ _ _ hO o9 (by simpa using h))) h1 h1'];simp[hij]
theorem tR{t:TypeId}(h:uT P t=true):∃el i,P.underlying t=some (.pointer el)/\P.info? el=some i/\i.size≠0:=by
 unfold uT at h
 split at h
 ·rename_i el ht
  split at h
  ·rename_i i hi
   exact⟨el,i,ht,hi,by have:0<i.size:=by simpa using h
                       omega⟩
  ·cases h
 ·cases h
theorem aaf{t el:TypeId}{i:TypeInfo}(ht:P.underlying t=some (.pointer el))(fw:P.info? el=some i)(hs:i.size≠0){x y:Addr}{b:Bool}(h:(sameAddr x y).run P w= .ok b w):
  (Op.equal t (.pointer (some x)) (.pointer (some y))).run P w= .ok b w:=by
 have e1:Op.equal t (.pointer (some x)) (.pointer (some y))=Op.equalIn (9999+1) t (.pointer (some x)) (.pointer (some y)):=rfl;rw[e1,Op.equalIn];simp[run_underlying ht,sizeOf,typeInfo,fw,hs,h]
theorem ur(hi:Inv I L O w){kt el:TypeId}{inf:TypeInfo}(ht:P.underlying kt=some (.pointer el))(fw:P.info? el=some inf)(hs:inf.size≠0){j:Nat}(hj:eg O j=true):∀(es:List (AV×AV)) (l:List MapEntry) (i:Nat),l.length=es.length->
  (∀(j:Nat) a v,es[j]? =some (a,v)->∃e,l[j]? =some e/\R I L O a e.key/\R I L O v e.val)->iJ O es=true->
  match gR j es i with
  |none=>(Instr.findAsking kt (.pointer (some ⟨(L j).bh,0,none⟩)) l i).run P w= .ok none w
  |some (q,v)=>∃x,(Instr.findAsking kt (.pointer (some ⟨(L j).bh,0,none⟩)) l i).run P w= .ok (some (q,x)) w/\R I L O v x
 | [],l,i,hl,_,_=>by
   obtain rfl:=List.eq_nil_of_length_eq_zero hl;simp[gR,Instr.findAsking]
 |(a,v)::es,l,i,hl,hr,hk=>by
  cases l with
  |nil=>simp at hl
  |cons e l=>
   obtain⟨e',h3,h4,h5⟩:=hr 0 a v rfl;simp at h3;subst h3;simp only[iJ,List.all_cons,Bool.and_eq_true]at hk;obtain⟨uY,hk2⟩:=hk
   split at uY
   ·rename_i k;have hv:=ql uY h4;have hq:=aaf (P:=P) (w:=w) ht fw hs (adD (P:=P) hi hj uY);by_cases hjk:j=k
    ·subst hjk;simp only[gR,if_true];refine⟨e.val,?_,h5⟩;unfold Instr.findAsking;simp[hv,hq]
    ·have ih:=ur hi ht fw hs hj es l (i+1) (by simpa using hl) (λ q a v hq=>by simpa using hr (q+1) a v (by simpa using hq)) hk2;simp only[gR,if_neg hjk]
     have hf:(Instr.findAsking kt (.pointer (some ⟨(L j).bh,0,none⟩)) (e::l) i).run P w=(Instr.findAsking kt (.pointer (some ⟨(L j).bh,0,none⟩)) l (i+1)).run P w:=by
      conv=>lhs;unfold Instr.findAsking
      simp[hv,hq,hjk]
     rw[hf];exact ih
   ·cases uY
theorem iH{kt el:TypeId}(ht:P.underlying kt=some (.pointer el))(k:Value)(l:List MapEntry):(Instr.findKey kt k l).run P w=(Instr.findAsking kt k l 0).run P w:=by
 cases l with
 |nil=>simp[Instr.findKey,Instr.findAsking,run_underlying ht,Instr.findNow]
 |cons e l=>simp[Instr.findKey,run_underlying ht,Instr.findNow,Instr.sameNow]
theorem ia{kt el:TypeId}(ht:P.underlying kt=some (.pointer el))(a:Option Addr)(e:Bool):(Instr.checkKey e 10000 kt (.pointer a)).run P w= .ok () w:=by
 show(Instr.checkKey e (9999+1) kt (.pointer a)).run P w=_;unfold Instr.checkKey;simp[run_underlying ht]
theorem adk{k:Nat}:∀(es:List (AV×AV)) (i j:Nat) (v:AV),gR k es i=some (j,v)->∃q l m f,j=i+q/\es[q]? =some (.ptr k l m f,v)
 | [],_,_,_,h=>by simp[gR]at h
 |(p,u)::es,i,j,v,h=>by
  have step:gR k es (i+1)=some (j,v)->∃q l m f,j=i+q/\((p,u)::es)[q]? =some (.ptr k l m f,v):=λ h=>by
   obtain⟨q,l,m,f,h1,h2⟩:=adk es (i+1) j v h;exact⟨q+1,l,m,f,by omega,by simpa using h2⟩
  unfold gR at h
  split at h
  ·rename_i heq;simp at heq
  ·rename_i k' _ _ _ v' es' heq;cases heq
   split at h
   ·rename_i hq;subst hq;cases h;exact⟨0,_,_,_,by omega,rfl⟩
   ·exact step h
  ·rename_i heq;cases heq;exact step h
theorem af0{es:List (AV×AV)}(h:iJ O es=true){q:Nat}{p v:AV}(hq:es[q]? =some (p,v)):∃k,p= .ptr k 1 0 0/\eg O k=true:=by
 have:=List.all_eq_true.1 h _ (mem_of_getElem? hq);simp only at this
 split at this
 ·exact⟨_,rfl,this⟩
 ·cases this
theorem adw(hi:Inv I L O w){n:Nat}{es:List (AV×AV)}{en:Array MapEntry}{clock:Nat}(hO:O[n]? =some (.dc (.mp es)))(b1:w.heap[(L n).bh]? =some (.map en clock))
  (es':List (AV×AV)) (en':Array MapEntry) (uj:Nat) (h1:en'.size=es'.length) (h2:∀(i:Nat) p q,es'[i]? =some (p,q)->∃e,en'[i]? =some e/\R I L O p e.key/\R I L O q e.val):
  Good I L O w I (λ k=>if k=n then L n else L k) (O.set n (.dc (.mp es'))) {w with heap:=w.heap.setIfInBounds (L n).bh (.map en' uj)}:=by
 have hn:=(List.getElem?_eq_some_iff.1 hO).1
 exact hi.xj (n:=n) (l:=L n) (g:= .mp es') (λ k=>by
   by_cases h:k=n
   ·subst h;rw[if_pos rfl];exact getElem?_set_self hn
   ·rw[if_neg h];exact getElem?_set_ne λ q=>h q.symm)
  (by simp) (λ b _ bB=>(MapKept.heap_set b1).2 b bB) rfl rfl rfl (by simp) (.inr ⟨_,hO,rfl,rfl⟩)
  (λ du=>⟨en',uj,(MapKept.heap_set b1).1,h1,λ i p q hx=>by
   obtain⟨e,h3,h4,h5⟩:=h2 i p q hx;exact⟨e,h3,h4.mono du,h5.mono du⟩⟩)
theorem akO(hi:Inv I L O w)(he:∀t,R I L O (e t) (a.tmps.getD t undef)){t kt et:TypeId}(ht:P.underlying t=some (.map kt et))(hbx:uT P kt=true){m k:Operand}{ok:Bool}{s b:Nat}{z:AV}(hz:mj P et=some (s,b,z)){am ak:aI}(hm:bL m=some am)(hkk:bL k=some ak)
  (hk:wpOp P (.zt ok z am ak) e O K):fx P I L O w (execOp a.eval ⟨d,.lookup t m k ok,ty,pos,af,g⟩) K:=by
 obtain⟨el,inf,hpt,fw,sd⟩:=tR hbx;obtain⟨i,z0,h1,h2,h3,rfl,rfl,h4,h5,h6,h7⟩:=e8 hz;have rm:=an hm he;have rk:=an hkk he;simp only[wpOp]at hk
 split at hk
 ·rename_i n j qm qk
  split at hk
  ·rename_i es hO;obtain⟨k1,k2,k3⟩:=hk;rw[qm]at rm;rw[qk]at rk;have em:=rm.sw hO;have ek:=ql k1 rk;obtain⟨en,clock,b1,b2,b3⟩:=hi.gh.ok n _ hO;have hfm:=ur (P:=P) hi hpt fw sd k1 es en.toList 0 (by simpa using b2) (λ j p v hj=>by simpa using b3 j p v hj) k2;have hzr:(zeroValue et).run P w= .ok z0 w:=by simp[zeroValue,typeInfo,h1,h2]
   cases hq:gR j es 0 with
   |none=>
    rw[hq]at hfm k3;have rz:R I L O z z0:=eO h3
    have bK:(Instr.lookup t (.map (some (L n).bh)) (.pointer (some ⟨(L j).bh,0,none⟩)) ok).run P w= .ok (if ok then .tuple #[z0,.bool false]else z0) w:=by
     cases ok<;>simp[Instr.lookup,run_underlying ht,MapKept.run_getObj_map b1,ia hpt,iH hpt,hfm,hzr,Result.andThen]
    cases ok with
    |false=>exact .same hi k3 rz (by simp[execOp,em,ek,gr.val,gr.lY,bK,Result.andThen])
    |true=>
     refine .same hi k3 (y:= .tuple #[z0,.bool false]) (.ba _ _ rfl λ j c x hc hx=> ?_) (by simp[execOp,em,ek,gr.val,gr.lY,bK,Result.andThen]);rcases j with _|_|j<;>simp at hc hx<;>subst hc<;>subst hx
     ·exact rz
     ·exact .v _ rfl
   |some p=>
    obtain⟨q,v⟩:=p;rw[hq]at hfm k3;obtain⟨x,hf,rx⟩:=hfm
    have bK:(Instr.lookup t (.map (some (L n).bh)) (.pointer (some ⟨(L j).bh,0,none⟩)) ok).run P w= .ok (if ok then .tuple #[x,.bool true]else x) w:=by
     cases ok<;>simp[Instr.lookup,run_underlying ht,MapKept.run_getObj_map b1,ia hpt,iH hpt,hf,Result.andThen]
    cases ok with
    |false=>exact .same hi k3 rx (by simp[execOp,em,ek,gr.val,gr.lY,bK,Result.andThen])
    |true=>
     refine .same hi k3 (y:= .tuple #[x,.bool true]) (.ba _ _ rfl λ j c x hc hx=> ?_) (by simp[execOp,em,ek,gr.val,gr.lY,bK,Result.andThen]);rcases j with _|_|j<;>simp at hc hx<;>subst hc<;>subst hx
     ·exact rx
     ·exact .v _ rfl
  ·exact hk.elim
 ·exact hk.elim
theorem akL(hi:Inv I L O w)(he:∀t,R I L O (e t) (a.tmps.getD t undef)){t kt et:TypeId}(ht:P.underlying t=some (.map kt et))(hbx:uT P kt=true){m k v:Operand}{am ak av:aI}(hm:bL m=some am)(hkk:bL k=some ak)(hv:bL v=some av)
  (hk:wpOp P (.jY am ak av) e O K):fx P I L O w (execOp a.eval ⟨d,.mapUpdate t m k v,ty,pos,af,g⟩) K:=by
 obtain⟨el,inf,hpt,fw,sd⟩:=tR hbx;have rm:=an hm he;have rk:=an hkk he;have rv:=an hv he;simp only[wpOp]at hk
 split at hk
 ·rename_i n j qm qk
  split at hk
  ·rename_i es hO;obtain⟨k1,k2,k3⟩:=hk;rw[qm]at rm;rw[qk]at rk;have em:=rm.sw hO;have ek:=ql k1 rk;rw[ek]at rk;obtain⟨en,clock,b1,b2,b3⟩:=hi.gh.ok n _ hO;have hfm:=ur (P:=P) hi hpt fw sd k1 es en.toList 0 (by simpa using b2) (λ j p v hj=>by simpa using b3 j p v hj) k2;cases hq:gR j es 0 with
   |none=>
    rw[hq]at hfm;have hms:Go.Ab.jY j (av.ev e) es=es++ [(.ptr j 1 0 0,av.ev e)]:=by unfold Go.Ab.jY;rw[hq]
    rw[hms]at k3
    have bK:(Instr.mapUpdate t (.map (some (L n).bh)) (.pointer (some ⟨(L j).bh,0,none⟩)) (a.eval v)).run P w= .ok () {w with heap:=w.heap.setIfInBounds (L n).bh (.map (en.push {key:= .pointer (some ⟨(L j).bh,0,none⟩),val:=a.eval v,born:=clock}) (clock+1))}:=by
     simp[Instr.mapUpdate,run_underlying ht,MapKept.run_getObj_map b1,ia hpt,iH hpt,hfm,MapKept.run_setObj_map _ b1,Result.andThen]
    refine⟨_,_,undef,_,_,_,k3,adw hi hO b1 _ (en.push ⟨.pointer (some ⟨(L j).bh,0,none⟩),a.eval v,clock⟩) (clock+1) (by simp[b2]) (λ i p q hx=> ?_),.ba _ _ rfl (by simp),.inr ⟨?_,rfl⟩⟩;rotate_left
    ·simp[execOp,em,ek,gr.val,gr.lY,bK,Result.andThen]
    ·by_cases eE:i<es.length
     ·rw[getElem?_append_left eE]at hx;obtain⟨e',h3,h4,h5⟩:=b3 i p q hx;exact⟨e',by rw[Array.getElem?_push];rw[if_neg (by omega)];exact h3,h4,h5⟩
     ·rw[getElem?_append_right (by omega)]at hx;cases hz:i- es.length with
      |succ z=>rw[hz]at hx;simp at hx
      |zero=>
       rw[hz]at hx;simp at hx;obtain⟨rfl,rfl⟩:=hx;exact⟨⟨.pointer (some ⟨(L j).bh,0,none⟩),a.eval v,clock⟩,by rw[Array.getElem?_push];rw[if_pos (by omega)],rk,rv⟩
   |some p=>
    obtain⟨q,u0⟩:=p;rw[hq]at hfm;obtain⟨x0,hf,_⟩:=hfm;obtain⟨q0,l0,m0,f0,hj,hes⟩:=adk es 0 q u0 hq;obtain rfl:q=q0:=by omega
    obtain⟨kk,azR,azQ⟩:=af0 k2 hes;cases azR;obtain⟨e0,h3,h4,_⟩:=b3 q _ _ hes;have hke:e0.key= .pointer (some ⟨(L j).bh,0,none⟩):=ql azQ h4;have hms:Go.Ab.jY j (av.ev e) es=es.set q (.ptr j 1 0 0,av.ev e):=by unfold Go.Ab.jY;rw[hq]
    rw[hms]at k3
    have awB:(Instr.keyThatStays (.pointer (some ⟨(L j).bh,0,none⟩)) (.pointer (some ⟨(L j).bh,0,none⟩))).run P w= .ok (.pointer (some ⟨(L j).bh,0,none⟩)) w:=by
     simp[Instr.keyThatStays,Instr.sameBits]
    have bK:(Instr.mapUpdate t (.map (some (L n).bh)) (.pointer (some ⟨(L j).bh,0,none⟩)) (a.eval v)).run P w= .ok () {w with heap:=w.heap.setIfInBounds (L n).bh (.map (en.modify q λ e=>{e with key:= .pointer (some ⟨(L j).bh,0,none⟩),val:=a.eval v}) clock)}:=by
     simp[Instr.mapUpdate,run_underlying ht,MapKept.run_getObj_map b1,ia hpt,iH hpt,hf,h3,hke,awB,MapKept.run_setObj_map _ b1,Result.andThen]
    refine⟨_,_,undef,_,_,_,k3,adw hi hO b1 _ (en.modify q λ e=>{e with key:= .pointer (some ⟨(L j).bh,0,none⟩),val:=a.eval v}) clock (by simp[b2]) (λ i p q' hx=> ?_),.ba _ _ rfl (by simp),.inr ⟨?_,rfl⟩⟩;rotate_left
    ·simp[execOp,em,ek,gr.val,gr.lY,bK,Result.andThen]
    ·by_cases hij:i=q
     ·subst hij;have aF:=(List.getElem?_eq_some_iff.1 hes).1;rw[getElem?_set_self aF]at hx;cases hx;exact⟨{e0 with key:= .pointer (some ⟨(L j).bh,0,none⟩),val:=a.eval v},by rw[Array.getElem?_modify];simp[h3],rk,rv⟩
     ·rw[getElem?_set_ne (λ q=>hij q.symm)]at hx;obtain⟨e',h3',h4',h5'⟩:=b3 i p q' hx;exact⟨e',by rw[Array.getElem?_modify];simp[h3',Ne.symm hij],h4',h5'⟩
  ·exact hk.elim
 ·exact hk.elim
theorem ain(hi:Inv I L O w)(he:∀t,R I L O (e t) (a.tmps.getD t undef)){t:TypeId}{x:Operand}(hc:b8 P ty (.range t x)=some ao)(hk:wpOp P ao e O K):fx P I L O w (execOp a.eval ⟨d,.range t x,ty,pos,af,g⟩) K:=by
 simp only[b8]at hc
 split at hc
 ·rename_i ht;simp only[bind_eq_bind,bind_eq_some_iff,Option.some.injEq]at hc;obtain⟨ax,hx,rfl⟩:=hc;have rx:=an hx he;simp only[wpOp]at hk
  split at hk
  ·rename_i s hs;rw[hs]at rx;have hv:=rx.exact
   have hg:=hi.xj (O':=O++ [.dc (.it s 0)]) (w':=w.alloc (.stringIter s 0)) (n:=O.length) (l:=Loc.at w.heap.size 0) (g:= .it s 0)
    (λ k=>by
     by_cases h:k=O.length
     ·subst h;rw[if_pos rfl];simp
     ·rw[if_neg h];by_cases h2:k<O.length
      ·rw[getElem?_append_left h2]
      ·rw[getElem?_eq_none (by simp;omega),getElem?_eq_none (by omega)])
    (by simp) (λ b hb _=>heap_alloc_old w _ b hb) rfl rfl rfl (by rw[World.size_alloc];exact le_succ _) (.inl ⟨le_refl _,le_refl _⟩)
    (λ _=>by
     show(w.alloc (.stringIter s 0)).heap[(Loc.at w.heap.size 0).bh]? =_;exact heap_alloc_new w _)
   refine⟨_,_,.pointer (some ⟨w.heap.size,0,none⟩),_,_,_,hk,hg,?_,.inl ?_⟩
   ·have:=R.gF (I:=I) (L:=λ k=>if k=O.length then Loc.at w.heap.size 0 else L k) (O:=O++ [.dc (.it s 0)]) O.length (.it s 0) (by simp);simpa [gr.val,gr.lY,Loc.at]using this
   ·have bK:=ah6 (P:=P) (w:=w) ht s;simp only[execOp,hv];rw[Sem.run_bind,bK];rfl
  ·exact hk.elim
 ·cases hc
theorem aip(hi:Inv I L O w)(he:∀t,R I L O (e t) (a.tmps.getD t undef)){x:Operand}{is:Bool}(hc:b8 P ty (.next x is)=some ao)(hk:wpOp P ao e O K):fx P I L O w (execOp a.eval ⟨d,.next x is,ty,pos,af,g⟩) K:=by
 cases is with
 |false=>simp[b8]at hc
 |true=>
  simp only[b8,bind_eq_bind,bind_eq_some_iff,Option.some.injEq]at hc;obtain⟨ax,hx,rfl⟩:=hc;have rx:=an hx he;simp only[wpOp]at hk
  split at hk
  ·rename_i n hn
   split at hk
   ·rename_i s pos' hO;rw[hn]at rx;have hv:=rx.sw hO;have hb:w.heap[(L n).bh]? =some (.stringIter s pos'):=hi.gh.ok n _ hO;have hnl:=(List.getElem?_eq_some_iff.1 hO).1;have bK:=ah9 (P:=P) hb ty;by_cases hp:pos'<s.size
    ·rw[if_pos hp]at bK;have hbl:=(Array.getElem?_eq_some_iff.1 hb).1
     have hg:=hi.xj (n:=n) (l:=L n) (g:= .it s (pos'+(Utf8.decode s pos').2)) (O':=O.set n (.dc (.it s (pos'+(Utf8.decode s pos').2)))) (w':={w with heap:=w.heap.set! (L n).bh (.stringIter s (pos'+(Utf8.decode s pos').2))})
      (λ k=>by
       by_cases h:k=n
       ·subst h;rw[if_pos rfl];exact getElem?_set_self hnl
       ·rw[if_neg h];exact getElem?_set_ne λ q=>h q.symm)
      (by simp) (λ b _ bB=>by simp[Array.set!,Ne.symm bB]) rfl rfl rfl (by simp) (.inr ⟨_,hO,rfl,rfl⟩)
      (λ _=>by
       show((w.heap.set! (L n).bh _))[(L n).bh]? =_;simp[hbl])
     refine⟨_,_,.tuple #[.bool true,goInt pos',.int .i32 (Utf8.decode s pos').1],_,_,_,hk.1 hp,hg,?_,.inl ?_⟩
     ·refine .ba _ _ rfl λ j c x hc hx=> ?_
      rcases j with _|_|_|j<;>simp at hc hx<;>subst hc<;>subst hx<;>exact .v _ rfl
     ·simp only[execOp,hv,gr.val,gr.lY];simp at bK⊢;rw[bK];rfl
    ·rw[if_neg hp]at bK;refine .same hi (hk.2 hp) (y:= .tuple #[.bool false]) (.ba _ _ rfl λ j c x hc hx=> ?_) ?_
     ·rcases j with _|j<;>simp at hc hx<;>subst hc<;>subst hx<;>exact .v _ rfl
     ·simp only[execOp,hv,gr.val,gr.lY];simp at bK⊢;rw[bK];rfl
   ·exact hk.elim
  ·exact hk.elim
theorem akR(hi:Inv I L O w)(he:∀t,R I L O (e t) (a.tmps.getD t undef)){t:TypeId}{m k:Operand}{ok:Bool}(hc:b8 P ty (.lookup t m k ok)=some ao)(hk:wpOp P ao e O K):fx P I L O w (execOp a.eval ⟨d,.lookup t m k ok,ty,pos,af,g⟩) K:=by
 simp only[b8]at hc
 split at hc
 ·rename_i kt et ht
  split at hc
  ·rename_i hbx;simp only[bind_eq_bind,bind_eq_some_iff,Option.some.injEq]at hc;obtain⟨⟨s,b,z⟩,hz,am,hm,ak,hkk,rfl⟩:=hc;exact akO hi he ht hbx hz hm hkk hk
  simp only[bind_eq_bind,bind_eq_some_iff,Option.some.injEq]at hc;obtain⟨u,hu,c,hcd,⟨s,b,z⟩,hz,am,hm,ak,hkk,rfl⟩:=hc;obtain⟨i,z0,h1,h2,h3,rfl,rfl,h4,h5,h6,h7⟩:=e8 hz;have rm:=an hm he;have rk:=an hkk he;simp only[wpOp]at hk
  split at hk
  ·rename_i n kv qm qk
   split at hk
   ·rename_i es hO;obtain⟨k1,k2,k3⟩:=hk;rw[qm]at rm;rw[qk]at rk;have em:=rm.sw hO;have ek:a.eval k=kv:=by cases rk;rfl
    obtain⟨en,clock,b1,b2,b3⟩:=hi.gh.ok n _ hO;have yo:=KD.key hcd k1;have hfm:=m6 (I:=I) (L:=L) (O:=O) yo es en.toList 0 (by simpa using b2) (λ j p v hj=>by simpa using b3 j p v hj) (KD.keys hcd k2);have hzr:(zeroValue et).run P w= .ok z0 w:=by simp[zeroValue,typeInfo,h1,h2]
    cases hq:mK kv es 0 with
    |none=>
     rw[hq]at hfm k3;have bK:=ady ht hu b1 yo hzr hfm ok;have rz:R I L O z z0:=eO h3;cases ok with
     |false=>exact .same hi k3 rz (by simp[execOp,em,ek,gr.val,gr.lY,bK,Result.andThen])
     |true=>
      refine .same hi k3 (y:= .tuple #[z0,.bool false]) (.ba _ _ rfl λ j c x hc hx=> ?_) (by simp[execOp,em,ek,gr.val,gr.lY,bK,Result.andThen]);rcases j with _|_|j<;>simp at hc hx<;>subst hc<;>subst hx
      ·exact rz
      ·exact .v _ rfl
    |some p=>
     obtain⟨j,v⟩:=p;rw[hq]at hfm k3;obtain⟨x,hf,rx⟩:=hfm;have bK:=adx ht hu b1 yo hf ok;cases ok with
     |false=>exact .same hi k3 rx (by simp[execOp,em,ek,gr.val,gr.lY,bK,Result.andThen])
     |true=>
      refine .same hi k3 (y:= .tuple #[x,.bool true]) (.ba _ _ rfl λ j c x hc hx=> ?_) (by simp[execOp,em,ek,gr.val,gr.lY,bK,Result.andThen]);rcases j with _|_|j<;>simp at hc hx<;>subst hc<;>subst hx
      ·exact rx
      ·exact .v _ rfl
   ·exact hk.elim
  ·exact hk.elim
 ·cases hc
theorem ade(hi:Inv I L O w)(he:∀t,R I L O (e t) (a.tmps.getD t undef)){t:TypeId}{m k v:Operand}(hc:b8 P ty (.mapUpdate t m k v)=some ao)(hk:wpOp P ao e O K):fx P I L O w (execOp a.eval ⟨d,.mapUpdate t m k v,ty,pos,af,g⟩) K:=by
 simp only[b8]at hc
 split at hc
 ·rename_i kt et ht
  split at hc
  ·rename_i hbx;simp only[bind_eq_bind,bind_eq_some_iff,Option.some.injEq]at hc;obtain⟨am,hm,ak,hkk,av,hv,rfl⟩:=hc;exact akL hi he ht hbx hm hkk hv hk
  simp only[bind_eq_bind,bind_eq_some_iff,Option.some.injEq]at hc;obtain⟨u,hu,c,hcd,am,hm,ak,hkk,av,hv,rfl⟩:=hc;have rm:=an hm he;have rk:=an hkk he;have rv:=an hv he;simp only[wpOp]at hk
  split at hk
  ·rename_i n kv qm qk
   split at hk
   ·rename_i es hO;obtain⟨k1,k2,k3⟩:=hk;rw[qm]at rm;rw[qk]at rk;have em:=rm.sw hO;have ek:a.eval k=kv:=by cases rk;rfl
    rw[ek]at rk;obtain⟨en,clock,b1,b2,b3⟩:=hi.gh.ok n _ hO;have hn:=(List.getElem?_eq_some_iff.1 hO).1;have yo:=KD.key hcd k1;have hfm:=m6 (I:=I) (L:=L) (O:=O) yo es en.toList 0 (by simpa using b2) (λ j p v hj=>by simpa using b3 j p v hj) (KD.keys hcd k2)
    have dB:∀(es':List (AV×AV)) (en':Array MapEntry) (uj:Nat),en'.size=es'.length->(∀(i:Nat) p q,es'[i]? =some (p,q)->∃e,en'[i]? =some e/\R I L O p e.key/\R I L O q e.val)->
      Good I L O w I (λ k=>if k=n then L n else L k) (O.set n (.dc (.mp es'))) {w with heap:=w.heap.setIfInBounds (L n).bh (.map en' uj)}:=λ es' en' uj h1 h2=>
     hi.xj (n:=n) (l:=L n) (g:= .mp es') (λ k=>by
       by_cases h:k=n
       ·subst h;rw[if_pos rfl];exact getElem?_set_self hn
       ·rw[if_neg h];exact getElem?_set_ne λ q=>h q.symm)
       (by simp) (λ b _ bB=>(MapKept.heap_set b1).2 b bB) rfl rfl rfl (by simp) (.inr ⟨_,hO,rfl,rfl⟩)
       (λ du=>⟨en',uj,(MapKept.heap_set b1).1,h1,λ i p q hx=>by
        obtain⟨e,h3,h4,h5⟩:=h2 i p q hx;exact⟨e,h3,h4.mono du,h5.mono du⟩⟩)
    cases hq:mK kv es 0 with
    |none=>
     rw[hq]at hfm;have hms:Go.Ab.o5 kv (av.ev e) es=es++ [(.v kv,av.ev e)]:=by unfold Go.Ab.o5;rw[hq]
     rw[hms]at k3;have bK:=acS ht hu b1 yo (a.eval v) hfm;refine⟨_,_,undef,_,_,_,k3,dB _ (en.push ⟨kv,a.eval v,clock⟩) (clock+1) (by simp[b2]) (λ i p q hx=> ?_),.ba _ _ rfl (by simp),.inr ⟨?_,rfl⟩⟩;rotate_left
     ·simp[execOp,em,ek,gr.val,gr.lY,bK,Result.andThen]
     ·by_cases eE:i<es.length
      ·rw[getElem?_append_left eE]at hx;obtain⟨e',h3,h4,h5⟩:=b3 i p q hx;exact⟨e',by rw[Array.getElem?_push];rw[if_neg (by omega)];exact h3,h4,h5⟩
      ·rw[getElem?_append_right (by omega)]at hx;cases hz:i- es.length with
       |succ z=>rw[hz]at hx;simp at hx
       |zero=>
        rw[hz]at hx;simp at hx;obtain⟨rfl,rfl⟩:=hx;exact⟨⟨kv,a.eval v,clock⟩,by rw[Array.getElem?_push];rw[if_pos (by omega)],rk,rv⟩
    |some p=>
     obtain⟨j,u0⟩:=p;rw[hq]at hfm;obtain⟨x0,hf,_⟩:=hfm;obtain⟨q0,k',hj,hes,hkb⟩:=adu es 0 j u0 hq;obtain rfl:j=q0:=by omega
     obtain⟨e0,h3,h4,_⟩:=b3 j _ _ hes
     have azS:MapKept.IsKey u k':=by
      obtain⟨k'',h7,h8⟩:=KD.keys hcd k2 _ (mem_of_getElem? hes);cases h7;exact h8
     have hke:e0.key=kv:=by
      have:e0.key=k':=by cases h4;rfl
      rw[this];exact((xU yo azS).1 hkb).symm
     have hms:Go.Ab.o5 kv (av.ev e) es=es.set j (.v kv,av.ev e):=by unfold Go.Ab.o5;rw[hq]
     rw[hms]at k3;have bK:=acR ht hu b1 yo (a.eval v) hf h3 hke;refine⟨_,_,undef,_,_,_,k3,dB _ (en.modify j λ e=>{e with key:=kv,val:=a.eval v}) clock (by simp[b2]) (λ i p q hx=> ?_),.ba _ _ rfl (by simp),.inr ⟨?_,rfl⟩⟩;rotate_left
     ·simp[execOp,em,ek,gr.val,gr.lY,bK,Result.andThen]
     ·by_cases hij:i=j
      ·subst hij;have aF:=(List.getElem?_eq_some_iff.1 hes).1;rw[getElem?_set_self aF]at hx;cases hx;exact⟨{e0 with key:=kv,val:=a.eval v},by rw[Array.getElem?_modify];simp[h3],rk,rv⟩
      ·rw[getElem?_set_ne (λ q=>hij q.symm)]at hx;obtain⟨e',h3',h4',h5'⟩:=b3 i p q hx;exact⟨e',by rw[Array.getElem?_modify];simp[h3',Ne.symm hij],h4',h5'⟩
   ·exact hk.elim
  ·exact hk.elim
 ·cases hc
theorem afq(hi:Inv I L O w)(he:∀t,R I L O (e t) (a.tmps.getD t undef)){t:TypeId}{m k v:Operand}(hc:b8 P ty (.insert t m k v)=some ao)(hk:wpOp P ao e O K):fx P I L O w (execOp a.eval ⟨d,.insert t m k v,ty,pos,af,g⟩) K:=
 ade (d:=d) (ty:=ty) (pos:=pos) (af:=af) (g:=g) hi he (t:=t) (m:=m) (k:=k) (v:=v) hc hk
end
end Go.Ab
