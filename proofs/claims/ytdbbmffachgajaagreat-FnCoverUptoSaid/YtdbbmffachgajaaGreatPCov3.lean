/-
  PATTERNS THAT ARE RIGHT FOR A TYPE: by the reference, and by the program.
-/
import Derived.Test.YtdbbmffachgajaaGreatCovA
import Derived.Test.YtdbbmffachgajaaGreatCSameTy
import Derived.Test.YtdbbmffachgajaaGreatCSiz
set_option maxRecDepth 100000
set_option linter.unusedVariables false
set_option linter.unusedSimpArgs false
namespace Go.Ab
mutual
def ai.names:ai->List ad->Int->Int->Bool
 | .mk k n s kids,list,d,g=>
   (if k=9 then decide (n<d)else if k=10 then decide (n<g)else if k=11 then false else if k=7 then(match fh list s with|some i=>decide (i.qz=(kids.length:Int))|none=>false)else true)&&ai.akp kids list d g
def ai.akp:List ai->List ad->Int->Int->Bool
 | [],_,_,_=>true
 |x::l,list,d,g=>x.names list d g&&ai.akp l list d g
end
theorem ai.aiK(list:List ad)(d g:Int):∀l:List ai,ai.akp l list d g=l.all λ x=>x.names list d g
 | []=>rfl
 |x::l=>by rw[ai.akp,ai.aiK list d g l];rfl
def ai.aiL(x:ai)(list:List ad)(d g:Int):Bool:=
 if x.Kind=9 then decide (x.N<d)else if x.Kind=10 then decide (x.N<g)else if x.Kind=11 then false else if x.Kind=7 then(match fh list x.Name with|some i=>decide (i.qz=(x.Kids.length:Int))|none=>false)else true
theorem ai.yJ(x:ai)(list:List ad)(d g:Int):x.names list d g=(x.aiL list d g&&x.Kids.all λ y=>y.names list d g):=by
 cases x;rw[ai.names,ai.aiK];rfl
def wE(list:List ad)(d:Int)(t:ai):Bool:=t.wN&&decide (t.dZ<=200)&&t.names list d 0
def oK(list:List ad)(name:ByteArray)(t:ai):Option (Option ai):=
 if t.Kind=7 then(match fh list t.Name with
  |some i=>(match i.br.find? λ c=>decide (c.Name=name)with
   |some c=>some (if c.Has=true then some (c.Arg.put 10 t.Kids)else none)
   |none=>none)
  |none=>none)else none
def ai.none(t:ai):Bool:=decide (t.Kind=0)&&decide (t.N=0)&&decide (t.Name=⟨#[]⟩)&&decide (t.Kids.length=0)
mutual
def aa.fit:aa->List ad->Int->ai->Bool
 | .mk k n s pt kids,list,d,t=>
   (decide (k=7)||decide (s=⟨#[]⟩))&&(decide (k=3)||decide (k=4)||decide (n=0))&&
   (if k=1∨k=2 then decide (kids.length=0)&&wE list d pt&&pt.same t
    else if k=3 then decide (kids.length=0)&&pt.none&&decide (0<=n)&&decide (t.Kind=1)
    else if k=4 then decide (kids.length=0)&&pt.none&&my n 0 1&&decide (t.Kind=2)
    else if k=5 then decide (kids.length=0)&&pt.none&&decide (t.Kind=3)
    else if k=7 then wE list d pt&&pt.same t&&(match oK list s t with
     |some (some a)=>decide (kids.length=1)&&aa.jD kids list d [a]
     |some none=>decide (kids.length=0)
     |none=>false)
    else if k=6 then pt.none&&decide (2<=kids.length)&&decide (t.Kind=6)&&decide (t.Kids.length=kids.length)&&aa.jD kids list d t.Kids
    else false)
def aa.jD:List aa->List ad->Int->List ai->Bool
 | [],_,_,_=>true
 |_::_,_,_,[]=>false
 |p::l,list,d,t::ts=>p.fit list d t&&aa.jD l list d ts
end
mutual
def aa.dZ:aa->Nat
 | .mk _ _ _ _ kids=>1+aa.ajY kids
def aa.ajY:List aa->Nat
 | []=>0
 |x::l=>x.dZ+aa.ajY l
end
theorem aa.yz:∀l:List aa,aa.ajY l=(l.map aa.dZ).sum
 | []=>rfl
 |x::l=>by rw[aa.ajY,aa.yz l];rfl
theorem aa.jV(x:aa):x.dZ=1+(x.Kids.map aa.dZ).sum:=by cases x;rw[aa.dZ,aa.yz];rfl
theorem pj{x:ai}:∀{y:ai},x.same y=true->x=y:=by
 intro y h;rw[ai.pj]at h;simp only[Bool.and_eq_true,decide_eq_true_eq]at h;obtain⟨⟨⟨h1,h2⟩,h3⟩,h4⟩:=h
 have key:∀l m:List ai,(∀a∈l,∀{b:ai},a.same b=true->a=b)->qD ai.same l m=true->l=m:=by
  intro l
  induction l with
  |nil=>intro m _ h;cases m with
   |nil=>rfl
   |cons _ _=>simp[qD]at h
  |cons a l ih=>
   intro m hl h;cases m with
   |nil=>simp[qD]at h
   |cons b m=>
    simp only[qD,Bool.and_eq_true]at h;rw[hl a (by simp) h.1,ih m (λ c hc=>hl c (by simp[hc])) h.2]
 have hk:=key x.Kids y.Kids (λ a _=>pj) h4;cases x;cases y;simp only[ai.Kind,ai.N,ai.Name,ai.Kids]at h1 h2 h3 hk;rw[h1,h2,h3,hk]
termination_by SizeOf.sizeOf x
decreasing_by exact ai.cT (by assumption)
end Go.Ab
