import Derived.Test.YtkebnpemgkjpkaaGreatDoorJ10
set_option maxRecDepth 100000
set_option linter.all false
namespace Go.Proofs.YtkebnpemgkjpkaaGreatDoor
open Go Go.RowKit Go.Proofs.Tryz Tryz
inductive Srt|v|vl|ol|pl|b|k|s|sl
mutual
def oj:Tree->Bool
 | .mk k _ _ g=>if k=7/\g.length=2 then true else if k=7\/k=8\/k=9 then ZY g else false
def ZY:List Tree->Bool
 | []=>false
 |x::l=>if l.isEmpty then oj x else ZY l
end
def Vr(l:List Tree):kB:=if Up l then Cw else ByteArray.empty
inductive Wf:Srt->List Tree->Prop
 |num {n:Int}:0<=n->n<=1000000000->Wf .v [.mk 17 ByteArray.empty n []]
 |str {s:kB}:s.size<=500->Wf .v [.mk 18 s 0 []]
 |con {k:Int}:19<=k->k<=22->Wf .v [.mk k ByteArray.empty 0 []]
 |name {s:kB}:xS s->Wf .v [.mk 23 s 0 []]
 |set {x y:Tree}:x.kind=23\/x.kind=36->Wf .v [x]->Wf .v [y]->Wf .v [.mk 24 ByteArray.empty 0 [x,y]]
 |two {k:Int} {x y:Tree}:25<=k->k<=31->Wf .v [x]->Wf .v [y]->Wf .v [.mk k ByteArray.empty 0 [x,y]]
 |one {k:Int} {x:Tree}:32<=k->k<=34->Wf .v [x]->Wf .v [.mk k ByteArray.empty 0 [x]]
 |mem {s:kB} {x:Tree}:xS s->Wf .v [x]->Wf .v [.mk 36 s 0 [x]]
 |call {x:Tree} {l:List Tree}:Wf .v [x]->Wf .vl l->Wf .v [.mk 35 ByteArray.empty 0 (x::l)]
 |lam {s:kB} {l:List Tree} {b:Tree}:s=ByteArray.empty\/xS s->Wf .pl l->Wf .b [b]->Wf .v [.mk 37 s 0 [.mk 40 ByteArray.empty 0 l,b]]
 |obj {l:List Tree}:Wf .ol l->Wf .v [.mk 38 ByteArray.empty 0 l]
 |vnil:Wf .vl []
 |vcons {x:Tree} {l:List Tree}:Wf .v [x]->Wf .vl l->Wf .vl (x::l)
 |onil:Wf .ol []
 |ocons {s:kB} {x:Tree} {l:List Tree}:xS s->Wf .v [x]->Wf .ol l->Wf .ol (.mk 39 s 0 [x]::l)
 |pnil:Wf .pl []
 |pcons {s:kB} {l:List Tree}:xS s->Wf .pl l->Wf .pl (.mk 23 s 0 []::l)
 |body {l:List Tree}:Wf .sl l->Wf .b [.mk 6 (Vr l) 0 l]
 |block {l:List Tree}:Wf .sl l->Wf .k [.mk 6 ByteArray.empty 0 l]
 |decl0 {k:Int} {s:kB}:k=2\/k=3->xS s->Wf .s [.mk k s 0 []]
 |decl1 {k:Int} {s:kB} {x:Tree}:k=2\/k=3\/k=4->xS s->Wf .v [x]->Wf .s [.mk k s 0 [x]]
 |func {s:kB} {l:List Tree} {b:Tree}:xS s->Wf .pl l->Wf .b [b]->Wf .s [.mk 5 s 0 [.mk 40 ByteArray.empty 0 l,b]]
 |blk {b:Tree}:Wf .k [b]->Wf .s [b]
 |if2 {x y:Tree}:Wf .v [x]->Wf .s [y]->Wf .s [.mk 7 ByteArray.empty 0 [x,y]]
 |if3 {x y z:Tree}:Wf .v [x]->Wf .s [y]->Wf .s [z]->oj y=false->Wf .s [.mk 7 ByteArray.empty 0 [x,y,z]]
 |loop {k:Int} {x y:Tree}:k=8\/k=9->Wf .v [x]->Wf .s [y]->Wf .s [.mk k ByteArray.empty 0 [x,y]]
 |ret0:Wf .s [.mk 10 ByteArray.empty 0 []]
 |ret1 {k:Int} {x:Tree}:k=10\/k=11->Wf .v [x]->Wf .s [.mk k ByteArray.empty 0 [x]]
 |tryc {s:kB} {b c:Tree}:Wf .k [b]->xS s->Wf .k [c]->Wf .s [.mk 12 ByteArray.empty 0 [b,.mk 13 s 0 [c]]]
 |tryf {b c:Tree}:Wf .k [b]->Wf .k [c]->Wf .s [.mk 12 ByteArray.empty 0 [b,.mk 14 ByteArray.empty 0 [c]]]
 |trycf {s:kB} {b c e:Tree}:Wf .k [b]->xS s->Wf .k [c]->Wf .k [e]->Wf .s [.mk 12 ByteArray.empty 0 [b,.mk 13 s 0 [c],.mk 14 ByteArray.empty 0 [e]]]
 |empty:Wf .s [.mk 16 ByteArray.empty 0 []]
 |expr {x:Tree}:Wf .v [x]->Wf .s [.mk 15 ByteArray.empty 0 [x]]
 |snil:Wf .sl []
 |scons {x:Tree} {l:List Tree}:Wf .s [x]->Wf .sl l->Wf .sl (x::l)
def Wf.vapp{l:List Tree}{x:Tree}(h:Wf .vl l)(g:Wf .v [x]):Wf .vl (l++[x]):=by
 induction l with
 |nil=>exact .vcons g .vnil
 |cons y l m=>cases h with|vcons h1 p=>exact .vcons h1 (m p)
def Wf.oapp{l:List Tree}{s:kB}{x:Tree}(h:Wf .ol l)(hs:xS s)(g:Wf .v [x]):Wf .ol (l++[.mk 39 s 0 [x]]):=by
 induction l with
 |nil=>exact .ocons hs g .onil
 |cons y l m=>cases h with|ocons h1 p u=>exact .ocons h1 p (m u)
def Wf.papp{l:List Tree}{s:kB}(h:Wf .pl l)(hs:xS s):Wf .pl (l++[.mk 23 s 0 []]):=by
 induction l with
 |nil=>exact .pcons hs .pnil
 |cons y l g=>cases h with|pcons h1 m=>exact .pcons h1 (g m)
def Wf.sapp{l:List Tree}{x:Tree}(h:Wf .sl l)(g:Wf .s [x]):Wf .sl (l++[x]):=by
 induction l with
 |nil=>exact .scons g .snil
 |cons y l m=>cases h with|scons h1 p=>exact .scons h1 (m p)
def GW(ts:List Tok):Prop:=∀t∈ts,(t.kind=1->xS t.text)/\(t.kind=3->0<=t.n/\t.n<=1000000000)/\(t.kind=4->t.text.size<=500)
theorem GW.tail{ts:List Tok}(h:GW ts):GW ts.tail:=λt ht=>h t (List.mem_of_mem_tail ht)
def GW.hd{ts:List Tok}(h:GW ts):((c9 ts).kind=1->xS (c9 ts).text)/\((c9 ts).kind=3->0<=(c9 ts).n/\(c9 ts).n<=1000000000)/\((c9 ts).kind=4->(c9 ts).text.size<=500):=by
 cases ts with
 |nil=>refine⟨λhk=>?_,λhk=>?_,λhk=>?_⟩<;>simp[c9]at hk
 |cons t l=>exact h t PE
def Wh(P:Tree->List Tok->Prop)(p:PR):Prop:=∀t ts,p=some (.ok (t,ts))->P t ts/\GW ts
section
variable {P Q:Tree->List Tok->Prop}
theorem Wh.fail{e:Int}{ts:List Tok}:Wh P (xn e ts):=by intro t ts' h;cases h
theorem Wh.none:Wh P none:=by intro t ts' h;cases h
theorem Wh.err{e:Int×Nat}:Wh P (some (.error e)):=by intro t ts' h;cases h
theorem Wh.ok{t:Tree}{ts:List Tok}(h:P t ts)(g:GW ts:=by first|assumption|exact GW.tail Qd|exact GW.tail (GW.tail Qd)):Wh P (ir t ts):=by
 intro t' ts' h';simp only[ir,Option.some.injEq,Except.ok.injEq,Prod.mk.injEq]at h';rw[<-h'.1,<-h'.2];exact⟨h,g⟩
def Wh.bind{p:PR}{k:Tree->List Tok->PR}(hp:Wh P p)(hk:∀t ts,P t ts->GW ts->Wh Q (k t ts)):Wh Q (Zq p k):=by
 cases p with
 |none=>exact Wh.none
 |some r=>
   cases r with
   |error e=>exact Wh.err
   |ok x=>obtain⟨t,ts⟩:=x;exact hk t ts (hp t ts rfl).1 (hp t ts rfl).2
def Wh.want{s:kB}{ts:List Tok}{k:List Tok->PR}(hk:GW ts.tail->Wh P (k ts.tail))(g:GW ts:=by first|assumption|exact GW.tail Qd|exact GW.tail (GW.tail Qd)):Wh P (lF s ts k):=by
 unfold lF;by_cases h:ak s ts=true;·rw[Y5 h];exact hk g.tail
 .rw[Y3 h];exact Wh.fail
def Wh.name{ts:List Tok}{k:kB->List Tok->PR}(hk:∀s,xS s->GW ts.tail->Wh P (k s ts.tail))(g:GW ts:=by first|assumption|exact GW.tail Qd|exact GW.tail (GW.tail Qd)):Wh P (B6 ts k):=by
 unfold B6;by_cases h:(c9 ts).kind=1;·rw[Y5 h];exact hk _ (g.hd.1 h) g.tail
 .rw[Y3 h];exact Wh.fail
def Wh.within{d:Nat}{ts:List Tok}{p:PR}(h:Wh P p):Wh P (x6 d ts p):=by
 unfold x6;by_cases g:30<d+1;·rw[Y5 g];exact Wh.fail
 .rw[Y3 g];exact h
def Wh.ite{c:Prop} [Decidable c]{p q:PR}(hp:c->Wh P p)(hq:¬c->Wh P q):Wh P (if c then p else q):=by
 exact Zrj
def Wh.comma{c:Prop} [Decidable c]{ts:List Tok}{k:List Tok->PR}(hk:∀ts',GW ts'->Wh P (k ts'))(g:GW ts:=by first|assumption|exact GW.tail Qd|exact GW.tail (GW.tail Qd)):Wh P ((if c then lF x4 ts else λk=>k ts) k):=by
 by_cases h:c;·rw[Y5 h];exact Wh.want (hk _)
 .rw[Y3 h];exact hk _ g
theorem Wh.end'{t:Tree}{ts:List Tok}(h:P t ts.tail)(g:GW ts:=by first|assumption|exact GW.tail Qd|exact GW.tail (GW.tail Qd)):Wh P (wP t ts):=Wh.want λ_=>Wh.ok h
theorem Wh.weak{p:PR}(h:Wh P p)(g:∀t ts,P t ts->Q t ts):Wh Q p:=λt ts e=>⟨g t ts (h t ts e).1,(h t ts e).2⟩
end
def StW(t:Tree)(ts:List Tok):Prop:=Wf .s [t]/\(oj t=true->ak XS ts=false)
def Job.resW:Job->Tree->List Tok->Prop
 | .stmts kind _=>λt _=>∃l,Wf .sl l/\t=.mk kind (Vr l) 0 l
 | .block body=>λt _=>if body then Wf .b [t]else Wf .k [t]
 | .func kind _=>λt _=>(kind=5->Wf .s [t]/\oj t=false)/\(kind=37->Wf .v [t])
 | .params _=>λt _=>∃l,Wf .pl l/\t=.mk 40 ByteArray.empty 0 l
 | .stmt=>StW
 | .decl _ _=>λt _=>Wf .s [t]/\oj t=false
 | .try_=>λt _=>Wf .s [t]/\oj t=false
 |_=>λt _=>Wf .v [t]
def Job.goodW:Job->Prop
 | .stmts _ g=>Wf .sl g
 | .func kind s=>(kind=5/\xS s)\/(kind=37/\(s=ByteArray.empty\/xS s))
 | .params g=>Wf .pl g
 | .decl kind m=>(kind=2\/kind=3)\/(kind=4/\m=true)
 | .binLoop _ x=>Wf .v [x]
 | .postLoop x=>Wf .v [x]
 | .args g=>∃x l,g=x::l/\Wf .v [x]/\Wf .vl l
 | .object g=>Wf .ol g
 |_=>True
def Uc{k:Int}{s:kB}{n:Int}{l:List Tree}(h:k≠7/\k≠8/\k≠9):oj (.mk k s n l)=false:=by
 unfold oj;rw[Y3 Px,Y3 Px]
def Ze9{x y:Tree}:ZY [x,y]=oj y:=by
 rw[ZY.eq_def];simp only;rw[Y3 PE,ZY.eq_def];simp only;rw[Y5 PE]
def Zfa{k:Int}{s:kB}{n:Int}{x y:Tree}(h:k=8\/k=9):oj (.mk k s n [x,y])=oj y:=by
 rw[oj.eq_def (.mk k s n [x,y])];simp only;rw[Y3 Px,Y5 Px,Ze9]
def Zpz{s:kB}{n:Int}{x y z:Tree}:oj (.mk 7 s n [x,y,z])=oj z:=by
 rw[oj.eq_def (.mk 7 s n [x,y,z])];show(if(7:Int)=7/\[x,y,z].length=2 then true else if(7:Int)=7\/(7:Int)=8\/(7:Int)=9 then ZY [x,y,z]else false)=oj z;rw[Y3 PE,Y5 (.inl rfl),ZY.eq_def];simp only;rw[Y3 PE,Ze9]
def Zpf:∀(f:Nat) (I:Job) (d:Nat) (ts:List Tok),I.goodW->GW ts->Wh I.resW (Z2 f I d ts):=by
 intro f;induction f with
 |zero=>intro I d ts _ _;unfold Z2;exact Wh.none
 |succ f jH=>
   intro I d ts p Y;have m:∀(I:Job) (d:Nat) (ts:List Tok),I.goodW->∀(g:GW ts:=by first|assumption|exact GW.tail Qd|exact GW.tail (GW.tail Qd)),Wh I.resW (Z2 f I d ts):=λI d ts h g=>jH I d ts h g;have kk:∀{t:Tree},Wf .k [t]->Wf .s [t]/\oj t=false:=λh=>⟨.blk h,by cases h;exact Uc Px⟩;cases I with
   |stmts kind J=>
     unfold Z2;refine Wh.ite (λ_=>Wh.ok ⟨J,p,rfl⟩) λ_=>?_;exact Wh.bind (Wh.within (m .stmt _ _ trivial)) λt ts' h _=>(m (.stmts kind (J++[t])) _ _ (Wf.sapp p h.1))
   |block body=>
     unfold Z2;refine Wh.want (λ_=>Wh.bind (m (.stmts 6 []) _ _ .snil) λt ts' U _=>Wh.want (λ_=>Wh.ok ?_));obtain⟨l,h1,rfl⟩:=U;cases body with
     |true=>exact .body h1
     |false=>exact .block h1
   |func kind text=>
     unfold Z2;refine Wh.want (λ_=>Wh.bind (m (.params []) _ _ .pnil) λt ts' U _=>Wh.want (λ_=>Wh.bind (m (.block true) _ _ trivial) λt ts' F _=>Wh.ok ?_));obtain⟨l,h1,rfl⟩:=U;refine⟨λhk=>?_,λhk=>?_⟩
     .subst hk;rcases p with⟨_,p⟩|⟨p,_⟩;·exact⟨.func p h1 F,Uc Px⟩
      .cases p
     .subst hk;rcases p with⟨p,_⟩|⟨_,p⟩;·cases p
      .exact .lam p h1 F
   |params J=>
     unfold Z2;refine Wh.ite (λ_=>Wh.ok ⟨J,p,rfl⟩) λ_=>?_;exact Wh.comma λts' _=>Wh.ite (λ_=>Wh.fail) λ_=>Wh.name λs hs _=>m (.params (J++[Tree.mk 23 s 0 []])) _ _ (Wf.papp p hs)
   |around=>
     unfold Z2;exact Wh.want (λ_=>Wh.bind (m .value _ _ trivial) λt ts' U _=>Wh.want (λ_=>Wh.ok U))
   |stmt=>
     unfold Z2;show Wh StW _;have nd:∀{t:Tree} {ts:List Tok},Wf .s [t]/\oj t=false->StW t ts:=λh=>⟨h.1,λe=>by rw[h.2]at e;cases e⟩;refine Wh.ite (λh=>(m (.block false) _ _ trivial).weak λ_ _ h=>nd (kk h)) λ_=>?_;refine Wh.ite (λh=>Wh.ok (nd ⟨.empty,Uc Px⟩)) λ_=>?_;refine Wh.ite (λh=>Wh.bind (m (.decl 2 false) _ _ (.inl (.inl rfl))) λt us u _=>Wh.end' (nd u)) λ_=>?_;refine Wh.ite (λh=>Wh.bind (m (.decl 3 false) _ _ (.inl (.inr rfl))) λt us u _=>Wh.end' (nd u)) λ_=>?_
     refine Wh.ite (λh=>Wh.bind (m (.decl 4 true) _ _ (.inr ⟨rfl,rfl⟩)) λt us u _=>Wh.end' (nd u)) λ_=>?_;refine Wh.ite (λh=>Wh.name λs hs _=>(m (.func 5 s) _ _ (.inl ⟨rfl,hs⟩)).weak λ_ _ h=>nd (h.1 rfl)) λ_=>?_;refine Wh.ite (λh=>Wh.bind (m .around _ _ trivial) λx us u _=>Wh.bind (Wh.within (m .stmt _ _ trivial)) λy vs F _=>Wh.ite (λX=>Wh.bind (Wh.within (m .stmt _ _ trivial)) λz xs h5 _=>Wh.ok ?_) λX=>Wh.ok ?_) λ_=>?_
     .refine⟨.if3 u F.1 h5.1 ?_,by rw[Zpz];exact h5.2⟩;cases hd:oj y with
      |false=>rfl
      |true=>rw[F.2 hd]at X;cases X
     .exact⟨.if2 u F.1,λ_=>by simpa using X⟩
     refine Wh.ite (λh=>Wh.bind (m .around _ _ trivial) λt us u _=>Wh.bind (Wh.within (m .stmt _ _ trivial)) λt vs F _=>Wh.ok ⟨.loop (.inl rfl) u F.1,by rw[Zfa (.inl rfl)];exact F.2⟩) λ_=>?_;refine Wh.ite (λh=>Wh.bind (m .around _ _ trivial) λt us u _=>Wh.bind (Wh.within (m .stmt _ _ trivial)) λt vs F _=>Wh.ok ⟨.loop (.inr rfl) u F.1,by rw[Zfa (.inr rfl)];exact F.2⟩) λ_=>?_
     refine Wh.ite (λh=>Wh.ite (λh1=>Wh.end' (nd ⟨.ret0,Uc Px⟩)) (λ_=>Wh.bind (m .value _ _ trivial) λt us u _=>Wh.end' (nd ⟨.ret1 (.inl rfl) u,Uc Px⟩))) λ_=>?_;refine Wh.ite (λh=>Wh.bind (m .value _ _ trivial) λt us u _=>Wh.end' (nd ⟨.ret1 (.inr rfl) u,Uc Px⟩)) λ_=>?_;refine Wh.ite (λh=>(m .try_ _ _ trivial).weak λ_ _ h=>nd h) λ_=>?_;exact Wh.bind (m .value _ _ trivial) λt us u _=>Wh.end' (nd ⟨.expr u,Uc Px⟩)
   |decl kind gE=>
     have hk:(kind=2\/kind=3)\/(kind=4/\gE=true):=p;unfold Z2;refine Wh.name λs hs _=>Wh.ite (λ_=>Wh.fail) λhm=>Wh.ite (λu=>Wh.bind (m .value _ _ trivial) λt us F _=>Wh.ok ?_) λhn=>Wh.ok ?_;·exact⟨.decl1 Px hs F,Uc Px⟩
     .refine⟨.decl0 ?_ hs,Uc Px⟩;rcases hk with h|⟨h,LU⟩;·exact h
      .subst LU;simp[hn]at hm
   |try_=>
     unfold Z2;refine Wh.bind (m (.block false) _ _ trivial) λb us h _=>?_;replace h:Wf .k [b]:=h
     refine Wh.ite (λh1=>?_) λ_=>?_
     .refine Wh.want (λ_=>Wh.name λs hs _=>Wh.want (λ_=>Wh.bind (m (.block false) _ _ trivial) λc vs h5 _=>?_));exact Wh.ite (λ_=>Wh.bind (m (.block false) _ _ trivial) λt xs F _=>Wh.ok ⟨.trycf h hs h5 F,Uc Px⟩) λ_=>Wh.ite (λ_=>Wh.fail) λ_=>Wh.ok ⟨.tryc h hs h5,Uc Px⟩
     .exact Wh.ite (λ_=>Wh.bind (m (.block false) _ _ trivial) λt xs F _=>Wh.ok ⟨.tryf h F,Uc Px⟩) λ_=>Wh.ite (λ_=>Wh.fail) λh=>absurd rfl h
   |value=>unfold Z2;exact Wh.within (m .assign _ _ trivial)
   |assign=>
     unfold Z2;exact Wh.bind (m (.bin 0) _ _ trivial) λx us h _=>Wh.ite (λh1=>Wh.ite (λhk=>Wh.bind (m .value _ _ trivial) λy vs u _=>Wh.ok (.set hk h u)) λ_=>Wh.err) λ_=>Wh.ok h
   |bin O=>
     unfold Z2;exact Wh.ite (λ_=>m .unary _ _ trivial) λ_=>Wh.bind (m (.bin (O+1)) _ _ trivial) λx us h _=>m (.binLoop O x) _ _ h
   |binLoop O x=>
     unfold Z2;exact Wh.ite (λ_=>Wh.ok p) λh0=>Wh.bind (m (.bin (O+1)) _ _ trivial) λy us h _=>m (.binLoop O (.mk (Dc O ts) ByteArray.empty 0 [x,y])) _ _ (.two (by have:=Zek O ts;omega) (by have:=Zek O ts;omega) p h)
   |unary=>
     unfold Z2;exact Wh.ite (λ_=>m .postfix_ _ _ trivial) λh0=>Wh.bind (Wh.within (m .unary _ _ trivial)) λx us h _=>Wh.ok (.one (by have:=Zdz ts;omega) (by have:=Zdz ts;omega) h)
   |postfix_=>
     unfold Z2;exact Wh.bind (m .primary _ _ trivial) λx us h _=>m (.postLoop x) _ _ h
   |postLoop x=>
     unfold Z2;exact Wh.ite (λ_=>Wh.name λs hs _=>m (.postLoop (.mk 36 s 0 [x])) _ _ (.mem hs p)) λ_=>Wh.ite (λ_=>Wh.bind (m (.args [x]) _ _ ⟨x,[],rfl,p,.vnil⟩) λn us h _=>m (.postLoop n) _ _ h) λ_=>Wh.ok p
   |args J=>
     unfold Z2;obtain⟨x,l,rfl,hx,hl⟩:=p;refine Wh.ite (λ_=>Wh.ok (.call hx hl)) λ_=>?_;exact Wh.comma λts' _=>Wh.ite (λ_=>Wh.fail) λ_=>Wh.bind (m .value _ _ trivial) λv us h _=>m (.args (x::l++[v])) _ _ ⟨x,l++[v],rfl,hx,Wf.vapp hl h⟩
   |primary=>
     unfold Z2;obtain⟨g1,Z,g3⟩:=Y.hd;refine Wh.ite (λh=>Wh.ok (.name (g1 h))) λ_=>?_;refine Wh.ite (λh=>Wh.ok (.num (Z h).1 (Z h).2)) λ_=>?_;refine Wh.ite (λh=>Wh.ok (.str (g3 h))) λ_=>?_;refine Wh.ite (λh=>Wh.ok (.con (by have:=Zf1 ts;omega) (by have:=Zf1 ts;omega))) λ_=>?_;refine Wh.ite (λh=>m .around _ _ trivial) λ_=>?_
     refine Wh.ite (λh=>Wh.ite (λhk=>(m (.func 37 (c9 ts.tail).text) _ _ (.inr ⟨rfl,.inr (Y.tail.hd.1 hk)⟩)).weak λ_ _ h=>h.2 rfl) λ_=>(m (.func 37 ByteArray.empty) _ _ (.inr ⟨rfl,.inl rfl⟩)).weak λ_ _ h=>h.2 rfl) λ_=>?_;exact Wh.ite (λh=>m (.object []) _ _ .onil) λ_=>Wh.fail
   |object J=>
     unfold Z2;refine Wh.ite (λ_=>Wh.ok (.obj p)) λ_=>?_;exact Wh.comma λts' _=>Wh.ite (λ_=>Wh.fail) λ_=>Wh.name λs hs _=>Wh.want (λ_=>Wh.bind (m .value _ _ trivial) λv us h _=>m (.object (J++[Tree.mk 39 s 0 [v]])) _ _ (Wf.oapp p hs h))
def Zw3{text:kB}{k:Nat}:∀(f i:Nat) (n:Int),(∀m,i<=m->m<k->mE (Z5 text m)=true)->0<=n->0<=iw text k f i n:=by
 intro f;induction f with
 |zero=>intro i n _ h;exact h
 |succ f g=>
   intro i n hd h;simp only[iw];by_cases hi:i<k
   .rw[Y5 hi];have:=hd i (Y0 _) hi;simp only[mE,Bool.and_eq_true,decide_eq_true_eq]at this;exact g _ _ (λm h1 p=>hd m Px p) Px
   .rw[Y3 hi];exact h
def Zgc{text:kB}:∀(f i:Nat) (m p:List UInt8) (k:Nat),Zo text f i m=(p,0,k)->p.length<=500:=by
 intro f;induction f with
 |zero=>intro i m p k h;simp[Zo]at h
 |succ f u=>
   intro i m p k h;simp only[Zo]at h;by_cases h1:text.size<=i\/Z5 text i=10;·rw[Y5 h1]at h;simp at h
   rw[Y3 h1]at h;by_cases y:Z5 text i=39
   .rw[Y5 y]at h;by_cases g:500<m.length;·rw[Y5 g]at h;simp at h
    rw[Y3 g]at h;simp only[Prod.mk.injEq,true_and]at h;obtain⟨rfl,_⟩:=h;omega
   rw[Y3 y]at h;by_cases g:Z5 text i=92
   .rw[Y5 g]at h;by_cases F:i+1<text.size
    .rw[Y5 F]at h;cases he:Ui (Z5 text (i+1))with
     |none=>rw[he]at h;simp at h
     |some e=>rw[he]at h;exact u _ _ _ _ h
    .rw[Y3 F]at h;simp at h
   .rw[Y3 g]at h;exact u _ _ _ _ h
def Zqx{text:kB}{j k:Nat}{t:Tok}(p:j<text.size)(h:iq text j=.ok (t,k)):(t.kind=1->xS t.text)/\(t.kind=3->0<=t.n/\t.n<=1000000000)/\(t.kind=4->t.text.size<=500):=by
 refine⟨Zqg p h,λhk=>?_,λhk=>?_⟩
 .unfold iq at h;simp only at h;split at h
  .split at h;·exact SN
   .split at h;·cases h
    .exact SN
  .split at h
   .split at h;·cases h
    .split at h;·cases h
     .simp only[Except.ok.injEq,Prod.mk.injEq]at h;obtain⟨rfl,_⟩:=h;obtain⟨s1,y,u,F⟩:=TQ mE text (text.size-j) j (Y0 _) Px;exact⟨Zw3 _ _ _ u Px,by simp only;omega⟩
   .split at h;·exact Ab8
    .split at h;·cases h
     .exact SN
 .unfold iq at h;simp only at h;split at h
  .split at h;·exact SN
   .split at h;·cases h
    .exact SN
  .split at h;·exact Ab8
   .split at h
    .obtain⟨⟨I,e,K⟩,g⟩:∃R,R=BN text (j+1):=⟨_,rfl⟩
     rw[<-g]at h;simp only at h;split at h;·cases h
     .split at h;·cases h
      .rename_i m;simp only[ne_eq,Decidable.not_not]at m;subst m;simp only[Except.ok.injEq,Prod.mk.injEq]at h;obtain⟨rfl,_⟩:=h;have:=Zgc _ _ _ _ _ g.symm;exact this
    .split at h;·cases h
     .exact SN
def Zs2{text:kB}:∀(r:List Tok) (i:Nat),i<=text.size->Sk text i r->GW r:=by
 intro r;induction r with
 |nil=>intro i _ h;exact h.elim
 |cons t r m=>
   intro i hi h;cases r with
   |nil=>
     obtain⟨h1,g⟩:=h;intro x hx;simp only[List.mem_singleton]at hx;subst hx;rw[g];refine⟨λh=>?_,λh=>?_,λh=>?_⟩<;>simp at h
   |cons u r=>
     obtain⟨k,h1,g,p⟩:=h;obtain⟨c1,c2,_⟩:=VB text h1 g;intro x hx;rcases List.mem_cons.1 hx with rfl|hx;·exact Zqx h1 g
     .exact m k c2 p x hx
def Zal{text:kB}{t:Tree}(h:Zt text=.ok t):∃l,Wf .sl l/\t=.mk 1 (Vr l) 0 l/\t.many<=1500:=by
 unfold Zt at h;split at h;·cases h
 .split at h;·cases h
  .rename_i ts _;split at h;·cases h
   .cases h
   .rename_i t' ts' hp;split at h;·cases h
    .have e:t'=t:=by simpa using h
     subst e;obtain⟨⟨l,h1,g⟩,_⟩:=Zpf _ _ _ _ (show Job.goodW (.stmts 1 [])from .snil) (Zs2 _ _ (Yh _) (Z8e Qd)) _ _ hp;exact⟨l,h1,g,by omega⟩
def LVal.ok(k:Nat)(v:LVal):Prop:=
 0<=v.kind/\v.kind<=5/\v.s.size<=500/\(v.kind≠5->-1000000000<=v.n/\v.n<=1000000000)/\(v.kind=5->0<=v.n/\v.n<k)
theorem LVal.ok.mono{k m:Nat}{v:LVal}(h:v.ok k)(hk:k<=m):v.ok m:=⟨h.1,h.2.1,h.2.2.1,h.2.2.2.1,λe=>⟨(h.2.2.2.2 e).1,by have:=(h.2.2.2.2 e).2;omega⟩⟩
theorem sn(k:Nat):LVal.zero.ok k:=⟨by decide,by decide,by decide,λ_=>by decide,λh=>by cases h⟩
theorem Zdy{k:Nat}{t:kB}(h:t.size<=500):(LVal.say t).ok k:=by refine⟨?_,?_,h,λ_=>?_,λh=>?_⟩<;>simp only[LVal.say]at * <;>omega
theorem U'{k:Nat}(b:Bool):(LVal.is b).ok k:=by cases b<;>exact⟨by decide,by decide,by decide,λ_=>by decide,λh=>by cases h⟩
theorem Zt4{k:Nat}:(⟨1,0,⟨#[]⟩⟩:LVal).ok k:=⟨by decide,by decide,by decide,λ_=>by decide,λh=>by cases h⟩
theorem Zic{k:Nat}{n:Int}(h1:-1000000000<=n)(g:n<=1000000000):(LVal.num n).ok k:=⟨by show(0:Int)<=3;decide,by show(3:Int)<=5;decide,by show(0:Nat)<=500;decide,λ_=>⟨h1,g⟩,λh=>by cases h⟩
theorem Te{k:Nat}{n:Int}(h1:0<=n)(g:n<k):(LVal.ref n).ok k:=⟨by show(0:Int)<=5;decide,by show(5:Int)<=5;decide,by show(0:Nat)<=500;decide,λh=>absurd rfl h,λ_=>⟨h1,g⟩⟩
structure Near(H H':LHeap):Prop where
 lo:H'.objects.length=H.objects.length
 ls:H'.scopes.length=H.scopes.length
 obj:∀(i:Nat) (o':LObj),H'.objects[i]?=some o'->∃o:LObj,H.objects[i]?=some o/\o'.code=o.code/\o'.props.length<=o.props.length+1/\∀p∈o'.props,p.v.ok H.objects.length\/∃q∈o.props,q.v=p.v
 scp:∀(i:Nat) (o':LScope),H'.scopes[i]?=some o'->∃o:LScope,H.scopes[i]?=some o/\o'.outer=o.outer/\o'.object=o.object/\o'.names.length<=o.names.length+1/\
  ∀p∈o'.names,(p.v.ok H.objects.length\/∃q∈o.names,q.v=p.v)/\((0<=p.kind/\p.kind<=4)\/∃q∈o.names,q.kind=p.kind)
def Near.refl(H:LHeap):Near H H:=
 ⟨rfl,rfl,λi o h=>⟨o,h,rfl,by omega,λp hp=>.inr ⟨p,hp,rfl⟩⟩,λi o h=>⟨o,h,rfl,rfl,by omega,λp hp=>⟨.inr ⟨p,hp,rfl⟩,.inr ⟨p,hp,rfl⟩⟩⟩⟩
def Near.object{H:LHeap}{m:Nat}{o o':LObj}(hm:H.objects[m]?=some o)(hc:o'.code=o.code)(hl:o'.props.length<=o.props.length+1)(hp:∀p∈o'.props,p.v.ok H.objects.length\/∃q∈o.props,q.v=p.v) :
 Near H {H with objects:=H.objects.set m o'}:=by
 refine⟨by simp,rfl,λi x h=>?_,(Near.refl H).scp⟩;simp only[List.getElem?_set]at h;split at h
 .split at h
  .rename_i h1 g;simp only[Option.some.injEq]at h;subst h1;subst h;exact⟨o,hm,hc,hl,hp⟩
  .cases h
 .exact(Near.refl H).obj i x h
def Near.scope{H:LHeap}{m:Nat}{o:LScope}{l:List LBind}(hm:H.scopes[m]?=some o)(hl:l.length<=o.names.length+1)
 (hp:∀p∈l,(p.v.ok H.objects.length\/∃q∈o.names,q.v=p.v)/\((0<=p.kind/\p.kind<=4)\/∃q∈o.names,q.kind=p.kind)):Near H (H.setNames m o l):=by
 refine⟨rfl,by simp[LHeap.setNames],(Near.refl H).obj,λi x h=>?_⟩;simp only[LHeap.setNames,List.getElem?_set]at h;split at h
 .split at h
  .rename_i h1 g;simp only[Option.some.injEq]at h;subst h1;subst h;exact⟨o,hm,rfl,rfl,hl,hp⟩
  .cases h
 .exact(Near.refl H).scp i x h
def mem_modify{α:Type}{f:α->α}{l:List α}{k:Nat}{x:α}(h:x∈l.modify k f):x∈l\/∃y∈l,x=f y:=by
 induction l generalizing k with
 |nil=>simp at h
 |cons a l g=>
   cases k with
   |zero=>
     simp only[List.modify_zero_cons,List.mem_cons]at h;rcases h with rfl|h;·exact .inr ⟨a,by simp,rfl⟩
     .exact .inl (by simp[h])
   |succ k=>
     simp only[List.modify_succ_cons,List.mem_cons]at h;rcases h with rfl|h;·exact .inl PE
     .rcases g h with h|⟨y,h1,m⟩;·exact .inl (by simp[h])
      .exact .inr ⟨y,by simp[h1],m⟩
def ZU{H:LHeap}{n:Int}{name:kB}{v:LVal}{fixed:Bool}(g:v.ok H.objects.length):Near H (H.put n name v fixed).1:=by
 unfold LHeap.put;rcases hob:H.object? n with _|o;·exact Near.refl H
 obtain⟨m,rfl,hm⟩:=LHeap.object?_some hob;simp only;split
 .rename_i k hk;refine Near.object (m:=m) hm rfl PE λp hp=>?_;rcases mem_modify hp with h|⟨y,h1,rfl⟩;·exact .inr ⟨p,h,rfl⟩
  .exact .inl g
 .refine Near.object (m:=m) hm rfl PE λp hp=>?_;rcases List.mem_append.1 hp with h|h;·exact .inr ⟨p,h,rfl⟩
  .simp only[List.mem_singleton]at h;subst h;exact .inl g
def Zi7{H:LHeap}{n:Int}{name:kB}:Near H (H.cut n name).1:=by
 unfold LHeap.cut;rcases hob:H.object? n with _|o;·exact Near.refl H
 obtain⟨m,rfl,hm⟩:=LHeap.object?_some hob;simp only;split;·exact Near.refl H
 .split;·exact Near.refl H
  .split;·exact Near.refl H
   .refine Near.object (m:=m) hm rfl ?_ λp hp=>.inr ⟨p,List.mem_of_mem_eraseIdx hp,rfl⟩;have:=List.length_eraseIdx_le o.props ‹Nat›;show(o.props.eraseIdx _).length<=_;omega
def Z6l{H:LHeap}{n:Int}{name:kB}{v:LVal}{kind:Int}(g:v.ok H.objects.length)(hk:0<=kind)(u:kind<=4):Near H (H.declare n name kind v).1:=by
 unfold LHeap.declare;rcases hob:H.scope? n with _|o;·exact Near.refl H
 obtain⟨m,rfl,hm⟩:=LHeap.scope?_some hob;simp only;split;·exact Near.refl H
 .split;·exact Near.refl H
  .refine Near.scope (m:=m) (l:=o.names++[⟨name,v,kind,_⟩]) hm PE λp hp=>?_;rcases List.mem_append.1 hp with h|h;·exact⟨.inr ⟨p,h,rfl⟩,.inr ⟨p,h,rfl⟩⟩
   .simp only[List.mem_singleton]at h;subst h;exact⟨.inl g,.inl ⟨hk,u⟩⟩
def Zla{H:LHeap}{n:Int}{name:kB}{v:LVal}(hv:v.ok H.objects.length):Near H (H.write n name v).1:=by
 unfold LHeap.write;rcases hob:H.scope? n with _|o;·exact Near.refl H
 obtain⟨m,rfl,hm⟩:=LHeap.scope?_some hob;simp only;split
 .split;·exact Near.refl H
  .rename_i k hk;split;·exact Near.refl H
   .rename_i b hb;split;·exact Near.refl H
    .split;·exact Near.refl H
     .split;·exact Near.refl H
      .exact Aa2
 .split;·exact ZU hv
  .exact Near.refl H
def Zj5{H:LHeap}{n:Int}{name:kB}{v:LVal}(hv:v.ok H.objects.length):Near H (H.start n name v).1:=by
 unfold LHeap.start;rcases hob:H.scope? n with _|o;·exact Near.refl H
 obtain⟨m,rfl,hm⟩:=LHeap.scope?_some hob;simp only;split;·exact Near.refl H
 .split;·exact Near.refl H
  .split;·exact Near.refl H
   .rename_i b hb;exact Aa2
def Zli{H:LHeap}{n:Int}{name:kB}:Near H (H.drop n name).1:=by
 unfold LHeap.drop;rcases hob:H.scope? n with _|o;·exact Near.refl H
 obtain⟨m,rfl,hm⟩:=LHeap.scope?_some hob;simp only;split
 .split;·exact Near.refl H
  .split;·exact Near.refl H
   .split
    .refine Near.scope (m:=m) hm ?_ λp hp=>?_
     .have:=List.length_filter_le (λb=>!LBind.is name b) o.names;unfold unnamed;omega
     .have h:p∈o.names:=(List.mem_filter.1 hp).1;exact⟨.inr ⟨p,h,rfl⟩,.inr ⟨p,h,rfl⟩⟩
    .exact Near.refl H
 .split;·exact Zi7
  .exact Near.refl H
def NT.wf(c:Srt)(x:NT):Prop:=Wf c [x.tree]
def KU(x:NT):Prop:=(x.kind=5/\x.wf .s\/x.kind=37/\x.wf .v)/\x.tree.many<=1500
structure Inv(s:MSt)(d:Nat):Prop where
 wf:s.H.WF
 own:s.owners.length=s.H.scopes.length
 obj:∀o∈s.H.objects,0<=o.code/\o.code<3+s.clos.length/\(∀p∈o.props,p.v.ok s.H.objects.length)/\o.props.length+d<=20000*(s.steps.toNat+1)
 scp:∀c∈s.H.scopes,-1<=c.object/\c.object<s.H.objects.length/\(∀x∈c.names,x.v.ok s.H.objects.length/\0<=x.kind/\x.kind<=4)/\c.names.length+d<=20000*(s.steps.toNat+1)
 clo:∀c∈s.clos,KU c.node/\0<=c.scope/\c.scope<s.H.scopes.length
 last:s.last.ok s.H.objects.length
 calls:0<=s.calls/\s.calls<=40
 steps:0<=s.steps/\s.steps<=20001
 szO:s.H.objects.length+d<=20000*(s.steps.toNat+1)
 szS:s.H.scopes.length+d<=20000*(s.steps.toNat+1)
 szC:s.clos.length+d<=20000*(s.steps.toNat+1)
 szL:s.log.length+d<=20000*(s.steps.toNat+1)
 szN:s.seen.length+d<=20000*(s.steps.toNat+1)
structure Ext(s t:MSt):Prop where
 lo:s.H.objects.length<=t.H.objects.length
 scp:∀(i:Nat) (c:LScope),s.H.scopes[i]?=some c->∃c':LScope,t.H.scopes[i]?=some c'/\c'.outer=c.outer/\c'.object=c.object
 ls:s.H.scopes.length<=t.H.scopes.length
 own:∃l,t.owners=s.owners++l
 clo:∃l,t.clos=s.clos++l
 glob:t.glob=s.glob
 outer:t.outer=s.outer
 top:t.top=s.top
 steps:s.steps<=t.steps
 log:∃l,t.log=s.log++l
 seen:∃l,t.seen=s.seen++l
theorem Ext.refl(s:MSt):Ext s s:=⟨Y0 _,λi c h=>⟨c,h,rfl,rfl⟩,Y0 _,⟨[],by simp⟩,⟨[],by simp⟩,rfl,rfl,rfl,Int.le_refl _,⟨[],by simp⟩,⟨[],by simp⟩⟩
theorem Ext.trans{s t u:MSt}(a:Ext s t)(b:Ext t u):Ext s u:=by
 obtain⟨g,h1⟩:=a.own;obtain⟨m,p⟩:=b.own;obtain⟨y,F⟩:=a.clo;obtain⟨G,I⟩:=b.clo;obtain⟨J,h5⟩:=a.log;obtain⟨O,U⟩:=b.log;obtain⟨X,Y⟩:=a.seen;obtain⟨Z,h8⟩:=b.seen;refine⟨Y4 a.lo b.lo,λi c h=>?_,Y4 a.ls b.ls,⟨g++m,by rw[p,h1,List.append_assoc]⟩,⟨y++G,by rw[I,F,List.append_assoc]⟩,b.glob.trans a.glob,b.outer.trans a.outer,b.top.trans a.top,Int.le_trans a.steps b.steps,⟨J++O,by rw[U,h5,List.append_assoc]⟩,⟨X++Z,by rw[h8,Y,List.append_assoc]⟩⟩;obtain⟨c1,g1,g2,g3⟩:=a.scp i c h
 obtain⟨c2,k1,k2,k3⟩:=b.scp i c1 g1;exact⟨c2,k1,k2.trans g2,k3.trans g3⟩
section
variable {s:MSt}{d:Nat}
def Inv.less{d':Nat}(h:Inv s d)(hd:d'<=d):Inv s d' where
 wf:=h.wf
 own:=h.own
 obj:=λo ho=>by have:=h.obj o ho;exact⟨this.1,this.2.1,this.2.2.1,by omega⟩
 scp:=λo ho=>by have:=h.scp o ho;exact⟨this.1,this.2.1,this.2.2.1,by omega⟩
 clo:=h.clo
 last:=h.last
 calls:=h.calls
 steps:=h.steps
 szO:=by have:=h.szO;omega
 szS:=by have:=h.szS;omega
 szC:=by have:=h.szC;omega
 szL:=by have:=h.szL;omega
 szN:=by have:=h.szN;omega
def Zwd{H g:LHeap}(h:H.WF)(n:Near H g):g.WF:=by
 intro i o' hi;obtain⟨o,h1,m,p,_⟩:=n.scp i o' hi;rw[m];exact h i o h1
def Inv.near{m:LHeap}(h:Inv s (d+1))(n:Near s.H m):Inv (s.setH m) d/\Ext s (s.setH m):=by
 refine⟨⟨Zwd h.wf n,by rw[show(s.setH m).H=m from rfl,n.ls];exact h.own,λo' ho=>?_,λo' ho=>?_,?_,?_,h.calls,h.steps,?_,?_,?_,?_,?_⟩,⟨?_,λi c hc=>?_,?_,⟨[],(List.append_nil _).symm⟩,⟨[],(List.append_nil _).symm⟩,rfl,rfl,rfl,Int.le_refl _,⟨[],(List.append_nil _).symm⟩,⟨[],(List.append_nil _).symm⟩⟩⟩
 .obtain⟨i,hi⟩:=List.getElem?_of_mem ho;obtain⟨o,h1,y,F,O⟩:=n.obj i o' hi;have g:=h.obj o (Yd h1);refine⟨by rw[y];exact g.1,by rw[y];exact g.2.1,λp hp=>?_,by show o'.props.length+d<=20000*(s.steps.toNat+1);omega⟩;rw[show(s.setH m).H=m from rfl,n.lo];rcases O p hp with h5|⟨q,h5,u⟩;·exact h5
  .rw[<-u];exact g.2.2.1 q h5
 .obtain⟨i,hi⟩:=List.getElem?_of_mem ho;obtain⟨o,h1,y,F,O,h5⟩:=n.scp i o' hi;have g:=h.scp o (Yd h1);have e:(s.setH m).H.objects.length=s.H.objects.length:=n.lo;refine⟨by rw[F];exact g.1,by rw[F,e];exact g.2.1,λp hp=>?_,by show o'.names.length+d<=20000*(s.steps.toNat+1);omega⟩;rw[e];obtain⟨u,I⟩:=h5 p hp;refine⟨?_,?_⟩
  .rcases u with u|⟨q,u,J⟩;·exact u
   .rw[<-J];exact(g.2.2.1 q u).1
  .rcases I with I|⟨q,I,J⟩;·exact I
   .rw[<-J];exact(g.2.2.1 q I).2
 .intro c hc;have g:=h.clo c hc;exact⟨g.1,g.2.1,by rw[show(s.setH m).H=m from rfl,n.ls];exact g.2.2⟩
 .rw[show(s.setH m).H=m from rfl,n.lo];exact h.last
 .rw[show(s.setH m).H=m from rfl,n.lo];have:=h.szO;show _<=20000*(s.steps.toNat+1);omega
 .rw[show(s.setH m).H=m from rfl,n.ls];have:=h.szS;show _<=20000*(s.steps.toNat+1);omega
 .exact Zv6
 .exact Zvw
 .exact Zuy
 .exact Nat.le_of_eq n.lo.symm
 .have hl:i<m.scopes.length:=by rw[n.ls];exact getElem?_lt hc
  obtain⟨o,h1,y,F,_⟩:=n.scp i _ (Y6 hl);rw[hc]at h1;simp only[Option.some.injEq]at h1;subst h1;exact⟨_,Y6 hl,y,F⟩
 .exact Nat.le_of_eq n.ls.symm
theorem Inv.opens{outer object owner:Int}(h:Inv s (d+1))(ho:-1<=outer)(F:outer<s.H.scopes.length)(hb:-1<=object)(u:object<s.H.objects.length):Inv (s.opens outer object owner) d/\Ext s (s.opens outer object owner):=by
 have m:(s.opens outer object owner).steps=s.steps:=rfl;have p:(s.opens outer object owner).H.scopes=s.H.scopes++[⟨outer,object,[]⟩]:=rfl;have hob:(s.opens outer object owner).H.objects=s.H.objects:=rfl;refine⟨⟨λi c hi=>?_,?_,λo ho=>?_,λc hc=>?_,λc hc=>?_,h.last,h.calls,h.steps,?_,?_,?_,?_,?_⟩,⟨Y0 _,λi c hc=>⟨c,?_,rfl,rfl⟩,?_,⟨[owner],rfl⟩,⟨[],(List.append_nil _).symm⟩,rfl,rfl,rfl,Int.le_refl _,⟨[],(List.append_nil _).symm⟩,⟨[],(List.append_nil _).symm⟩⟩⟩
 .rw[p,List.getElem?_append]at hi;split at hi;·exact h.wf i c hi
  .rename_i G;have h1:=getElem?_lt hi;simp at h1;have y:i-s.H.scopes.length=0:=by omega
   rw[y]at hi;simp only[List.getElem?_cons_zero,Option.some.injEq]at hi;subst hi;exact⟨ho,by show outer<i;omega⟩
 .rw[p];show(s.owners++[owner]).length=_;simp[h.own]
 .have g:=h.obj o ho;exact⟨g.1,g.2.1,g.2.2.1,by rw[m];omega⟩
 .rw[p]at hc;rcases List.mem_append.1 hc with h1|h1
  .have g:=h.scp c h1;exact⟨g.1,g.2.1,g.2.2.1,by rw[m];omega⟩
  .simp only[List.mem_singleton]at h1;subst h1;exact⟨hb,u,(λx hx=>by cases hx),by rw[m];have:=h.szS;simp;omega⟩
 .have g:=h.clo c hc;exact⟨g.1,g.2.1,by rw[p];simp;have:=g.2.2;omega⟩
 .have:=h.szO;rw[m,hob];omega
 .have:=h.szS;rw[m,p];simp;omega
 .have:=h.szC;rw[m];show s.clos.length+d<=_;omega
 .have:=h.szL;rw[m];show s.log.length+d<=_;omega
 .have:=h.szN;rw[m];show s.seen.length+d<=_;omega
 .rw[p,List.getElem?_append_left (getElem?_lt hc)];exact hc
 .rw[p];simp
theorem Inv.object{code:Int}(h:Inv s (d+1))(hc:0<=code)(u:code<3+s.clos.length):Inv (s.object code) d/\Ext s (s.object code):=by
 have m:(s.object code).steps=s.steps:=rfl;have hob:(s.object code).H.objects=s.H.objects++[⟨[],code⟩]:=rfl;have y:(s.object code).H.scopes=s.H.scopes:=rfl;have hl:(s.object code).H.objects.length=s.H.objects.length+1:=by rw[hob];simp
 refine⟨⟨h.wf,h.own,λo ho=>?_,λc hc=>?_,h.clo,?_,h.calls,h.steps,?_,?_,?_,?_,?_⟩,⟨by omega,λi c hc=>⟨c,hc,rfl,rfl⟩,Y0 _,⟨[],(List.append_nil _).symm⟩,⟨[],(List.append_nil _).symm⟩,rfl,rfl,rfl,Int.le_refl _,⟨[],(List.append_nil _).symm⟩,⟨[],(List.append_nil _).symm⟩⟩⟩
 .rw[hob]at ho;rcases List.mem_append.1 ho with h1|h1
  .have g:=h.obj o h1;exact⟨g.1,g.2.1,λp hp=>by rw[hl];exact(g.2.2.1 p hp).mono Px,by rw[m];omega⟩
  .simp only[List.mem_singleton]at h1;subst h1;exact⟨hc,u,(λp hp=>by cases hp),by rw[m];have:=h.szO;simp;omega⟩
 .have g:=h.scp c hc;exact⟨g.1,by rw[hl];have:=g.2.1;omega,λx hx=>by rw[hl];exact⟨(g.2.2.1 x hx).1.mono Px,(g.2.2.1 x hx).2⟩,by rw[m];omega⟩
 .rw[hl];exact h.last.mono Px
 .have:=h.szO;rw[m,hl];omega
 .have:=h.szS;rw[m,y];omega
 .have:=h.szC;rw[m];show s.clos.length+d<=_;omega
 .have:=h.szL;rw[m];show s.log.length+d<=_;omega
 .have:=h.szN;rw[m];show s.seen.length+d<=_;omega
theorem Inv.clos{c:Clo}(h:Inv s (d+1))(hc:KU c.node/\0<=c.scope/\c.scope<s.H.scopes.length):Inv {s with clos:=s.clos++[c]} d/\Ext s {s with clos:=s.clos++[c]}:=by
 refine⟨⟨h.wf,h.own,λo ho=>?_,λc hc=>?_,λx hx=>?_,h.last,h.calls,h.steps,?_,?_,?_,?_,?_⟩,⟨Y0 _,λi c hc=>⟨c,hc,rfl,rfl⟩,Y0 _,⟨[],(List.append_nil _).symm⟩,⟨[c],rfl⟩,rfl,rfl,rfl,Int.le_refl _,⟨[],(List.append_nil _).symm⟩,⟨[],(List.append_nil _).symm⟩⟩⟩
 .have g:=h.obj o ho;exact⟨g.1,by have:=g.2.1;simp;omega,g.2.2.1,by show _<=20000*(s.steps.toNat+1);omega⟩
 .have g:=h.scp c hc;exact UJ
 .rcases List.mem_append.1 hx with h1|h1;·exact h.clo x h1
  .simp only[List.mem_singleton]at h1;subst h1;exact hc
 .exact Zue
 .exact Zuc
 .have:=h.szC;show(s.clos++[c]).length+d<=20000*(s.steps.toNat+1);simp;omega
 .exact Zvw
 .exact Zuy
theorem Inv.log{t:kB}(h:Inv s (d+1)):Inv {s with log:=s.log++[t]} d/\Ext s {s with log:=s.log++[t]}:=by
 refine⟨⟨h.wf,h.own,λo ho=>?_,λc hc=>?_,h.clo,h.last,h.calls,h.steps,?_,?_,?_,?_,?_⟩,⟨Y0 _,λi c hc=>⟨c,hc,rfl,rfl⟩,Y0 _,⟨[],(List.append_nil _).symm⟩,⟨[],(List.append_nil _).symm⟩,rfl,rfl,rfl,Int.le_refl _,⟨[t],rfl⟩,⟨[],(List.append_nil _).symm⟩⟩⟩
 .have g:=h.obj o ho;exact UJ
 .have g:=h.scp c hc;exact UJ
 .exact Zue
 .exact Zuc
 .exact Zv6
 .have:=h.szL;show(s.log++[t]).length+d<=20000*(s.steps.toNat+1);simp;omega
 .exact Zuy
theorem Inv.seen{t:Int×Int}(h:Inv s (d+1)):Inv {s with seen:=s.seen++[t]} d/\Ext s {s with seen:=s.seen++[t]}:=by
 refine⟨⟨h.wf,h.own,λo ho=>?_,λc hc=>?_,h.clo,h.last,h.calls,h.steps,?_,?_,?_,?_,?_⟩,⟨Y0 _,λi c hc=>⟨c,hc,rfl,rfl⟩,Y0 _,⟨[],(List.append_nil _).symm⟩,⟨[],(List.append_nil _).symm⟩,rfl,rfl,rfl,Int.le_refl _,⟨[],(List.append_nil _).symm⟩,⟨[t],rfl⟩⟩⟩
 .have g:=h.obj o ho;exact UJ
 .have g:=h.scp c hc;exact UJ
 .exact Zue
 .exact Zuc
 .exact Zv6
 .exact Zvw
 .have:=h.szN;show(s.seen++[t]).length+d<=20000*(s.steps.toNat+1);simp;omega
def Inv.turn{k c:Int}{v:LVal}{d':Nat}(h:Inv s d)(hk:s.steps<=k)(m:k<=20001)(hc:0<=c/\c<=40)(p:v.ok s.H.objects.length)(hd:d'+20000*s.steps.toNat<=d+20000*k.toNat) :
 Inv {s with steps:=k,calls:=c,last:=v} d'/\Ext s {s with steps:=k,calls:=c,last:=v}:=by
 have u:=h.steps;refine⟨⟨h.wf,h.own,λo ho=>?_,λc hc=>?_,h.clo,p,hc,⟨Int.le_trans h.steps.1 hk,m⟩,?_,?_,?_,?_,?_⟩,⟨Y0 _,λi c hc=>⟨c,hc,rfl,rfl⟩,Y0 _,⟨[],(List.append_nil _).symm⟩,⟨[],(List.append_nil _).symm⟩,rfl,rfl,rfl,hk,⟨[],(List.append_nil _).symm⟩,⟨[],(List.append_nil _).symm⟩⟩⟩
 .have g:=h.obj o ho;exact Zxj
 .have g:=h.scp c hc;exact Zxj
 .have:=h.szO;show s.H.objects.length+d'<=20000*(k.toNat+1);omega
 .have:=h.szS;show s.H.scopes.length+d'<=20000*(k.toNat+1);omega
 .have:=h.szC;show s.clos.length+d'<=20000*(k.toNat+1);omega
 .have:=h.szL;show s.log.length+d'<=20000*(k.toNat+1);omega
 .have:=h.szN;show s.seen.length+d'<=20000*(k.toNat+1);omega
end
section
variable {t:Tree}
def Ac0(h:Wf .v [t])(hk:t.kind=17):0<=t.n/\t.n<=1000000000/\t.kids=[]:=by
 cases h
 all_goals first
  |(exfalso;simp only[Tree.kind]at hk;omega)
  |exact⟨‹_›,‹_›,rfl⟩
def Adf(h:Wf .v [t])(hk:t.kind=18):t.text.size<=500/\t.kids=[]:=by
 cases h
 all_goals first
  |(exfalso;simp only[Tree.kind]at hk;omega)
  |exact⟨‹_›,rfl⟩
def AaH(h:Wf .v [t])(hk:t.kind=24):∃x y,t.kids=[x,y]/\(x.kind=23\/x.kind=36)/\Wf .v [x]/\Wf .v [y]:=by
 cases h
 all_goals first
  |(exfalso;simp only[Tree.kind]at hk;omega)
  |exact⟨_,_,rfl,‹_›,‹_›,‹_›⟩
def wv2(h:Wf .v [t])(h1:25<=t.kind)(g:t.kind<=31):∃x y,t.kids=[x,y]/\Wf .v [x]/\Wf .v [y]:=by
 cases h
 all_goals first
  |(exfalso;simp only[Tree.kind]at h1 g;omega)
  |exact⟨_,_,rfl,‹_›,‹_›⟩
def wv1(h:Wf .v [t])(h1:32<=t.kind)(g:t.kind<=34):∃x,t.kids=[x]/\Wf .v [x]:=by
 cases h
 all_goals first
  |(exfalso;simp only[Tree.kind]at h1 g;omega)
  |exact⟨_,rfl,‹_›⟩
def AaJ(h:Wf .v [t])(hk:t.kind=35):∃x l,t.kids=x::l/\Wf .v [x]/\Wf .vl l:=by
 cases h
 all_goals first
  |(exfalso;simp only[Tree.kind]at hk;omega)
  |exact⟨_,_,rfl,‹_›,‹_›⟩
def Tq(h:Wf .v [t])(hk:t.kind=36):xS t.text/\∃x,t.kids=[x]/\Wf .v [x]:=by
 cases h
 all_goals first
  |(exfalso;simp only[Tree.kind]at hk;omega)
  |exact⟨‹_›,_,rfl,‹_›⟩
def Ac6(h:Wf .v [t])(hk:t.kind=37):(t.text=ByteArray.empty\/xS t.text)/\∃l b,t.kids=[.mk 40 ByteArray.empty 0 l,b]/\Wf .pl l/\Wf .b [b]:=by
 cases h
 all_goals first
  |(exfalso;simp only[Tree.kind]at hk;omega)
  |exact⟨‹_›,_,_,rfl,‹_›,‹_›⟩
def Abc(h:Wf .v [t])(hk:t.kind=38):Wf .ol t.kids:=by
 cases h
 all_goals first
  |(exfalso;simp only[Tree.kind]at hk;omega)
  |assumption
def Zlm(h:Wf .v [t]):17<=t.kind/\t.kind<=38:=by
 cases h;all_goals simp only[Tree.kind]at *
 all_goals omega
def wb(h:Wf .b [t]):t.kind=6/\Wf .sl t.kids/\t.text=Vr t.kids:=by
 cases h;exact⟨rfl,‹_›,rfl⟩
def wk(h:Wf .k [t]):t.kind=6/\Wf .sl t.kids/\t.text=ByteArray.empty:=by
 cases h;exact⟨rfl,‹_›,rfl⟩
def Zmd(h:Wf .s [t]):2<=t.kind/\t.kind<=16/\t.kind≠13/\t.kind≠14:=by
 cases h;case blk h=>have:=(wk h).1;omega
 all_goals simp only[Tree.kind]at *
 all_goals omega
def Zi3(h:Wf .s [t])(hk:t.kind=6):Wf .k [t]:=by
 cases h;case blk h=>exact h
 all_goals simp only[Tree.kind]at hk
 all_goals omega
def ws2(h:Wf .s [t])(hk:t.kind=2\/t.kind=3\/t.kind=4):xS t.text/\(t.kids=[]\/∃x,t.kids=[x]/\Wf .v [x]):=by
 cases h;case blk h=>exfalso;have:=(wk h).1;omega
 all_goals first
  |(exfalso;simp only[Tree.kind]at hk;omega)
  |exact⟨‹_›,.inl rfl⟩
  |exact⟨‹_›,.inr ⟨_,rfl,‹_›⟩⟩
def ws5(h:Wf .s [t])(hk:t.kind=5):xS t.text/\∃l b,t.kids=[.mk 40 ByteArray.empty 0 l,b]/\Wf .pl l/\Wf .b [b]:=by
 cases h;case blk h=>exfalso;have:=(wk h).1;omega
 all_goals first
  |(exfalso;simp only[Tree.kind]at hk;omega)
  |exact⟨‹_›,_,_,rfl,‹_›,‹_›⟩
def ws7(h:Wf .s [t])(hk:t.kind=7):∃x y,Wf .v [x]/\Wf .s [y]/\(t.kids=[x,y]\/∃z,t.kids=[x,y,z]/\Wf .s [z]):=by
 cases h;case blk h=>exfalso;have:=(wk h).1;omega
 all_goals first
  |(exfalso;simp only[Tree.kind]at hk;omega)
  |exact⟨_,_,‹_›,‹_›,.inl rfl⟩
  |exact⟨_,_,‹Wf .v _›,‹_›,.inr ⟨_,rfl,‹_›⟩⟩
def ws8(h:Wf .s [t])(hk:t.kind=8\/t.kind=9):∃x y,t.kids=[x,y]/\Wf .v [x]/\Wf .s [y]:=by
 cases h;case blk h=>exfalso;have:=(wk h).1;omega
 all_goals first
  |(exfalso;simp only[Tree.kind]at hk;omega)
  |exact⟨_,_,rfl,‹_›,‹_›⟩
def Abq(h:Wf .s [t])(hk:t.kind=10\/t.kind=11):t.kids=[]/\t.kind=10\/∃x,t.kids=[x]/\Wf .v [x]:=by
 cases h;case blk h=>exfalso;have:=(wk h).1;omega
 all_goals first
  |(exfalso;simp only[Tree.kind]at hk;omega)
  |exact .inl ⟨rfl,rfl⟩
  |exact .inr ⟨_,rfl,‹_›⟩
def Han(k:Tree):Prop:=(k.kind=13/\xS k.text\/k.kind=14)/\∃c,k.kids=[c]/\Wf .k [c]
def Acx(h:Wf .s [t])(hk:t.kind=12):∃b l,t.kids=b::l/\Wf .k [b]/\l.length<=2/\∀k∈l,Han k:=by
 cases h;case blk h=>exfalso;have:=(wk h).1;omega
 all_goals first
  |(exfalso;simp only[Tree.kind]at hk;omega)
  |exact⟨_,_,rfl,‹_›,by simp,λk hm=>by(simp at hm;subst hm;exact⟨.inl ⟨rfl,‹_›⟩,_,rfl,‹_›⟩)⟩
  |exact⟨_,_,rfl,‹_›,by simp,λk hm=>by(simp at hm;subst hm;exact⟨.inr rfl,_,rfl,‹_›⟩)⟩
  |exact⟨_,_,rfl,‹_›,by simp,λk hm=>by(simp at hm;rcases hm with rfl|rfl<;>first|exact⟨.inl ⟨rfl,‹_›⟩,_,rfl,‹_›⟩|exact⟨.inr rfl,_,rfl,‹_›⟩)⟩
def AaQ(h:Wf .s [t])(hk:t.kind=15):∃x,t.kids=[x]/\Wf .v [x]:=by
 cases h;case blk h=>exfalso;have:=(wk h).1;omega
 all_goals first
  |(exfalso;simp only[Tree.kind]at hk;omega)
  |exact⟨_,rfl,‹_›⟩
def AaO(h:Wf .s [t])(hk:t.kind=16):t.kids=[]:=by
 cases h;case blk h=>exfalso;have:=(wk h).1;omega
 all_goals first
  |(exfalso;simp only[Tree.kind]at hk;omega)
  |rfl
end
def Ziw{t:Tree}{l:List Tree}(h:Wf .sl (t::l)):Wf .s [t]/\Wf .sl l:=by
 cases h;exact⟨‹_›,‹_›⟩
def Zi0{t:Tree}{l:List Tree}(h:Wf .vl (t::l)):Wf .v [t]/\Wf .vl l:=by
 cases h;exact⟨‹_›,‹_›⟩
def Zj0{t:Tree}{l:List Tree}(h:Wf .ol (t::l)):(t.kind=39/\xS t.text/\∃x,t.kids=[x]/\Wf .v [x])/\Wf .ol l:=by
 cases h;exact⟨⟨rfl,‹_›,_,rfl,‹_›⟩,‹_›⟩
def Zwk{l:List Tree}(h:Wf .sl l){t:Tree}(ht:t∈l):Wf .s [t]:=by
 induction l with
 |nil=>cases ht
 |cons x l g=>
   rcases List.mem_cons.1 ht with rfl|m;·exact(Ziw h).1
   .exact g (Ziw h).2 m
section
variable {s t:MSt}{d:Nat}
theorem Ez{o:Int}{name:kB}{v:LVal}{fx:Bool}(h:Inv s (d+1))(g:v.ok s.H.objects.length):Inv (s.put o name v fx) d/\Ext s (s.put o name v fx):=h.near (ZU g)
theorem Uw{sc kind:Int}{name:kB}{v:LVal}(h:Inv s (d+1))(g:v.ok s.H.objects.length)(m:0<=kind)(p:kind<=4):Inv (s.declare sc name kind v) d/\Ext s (s.declare sc name kind v):=h.near (Z6l g m p)
theorem Z87{sc:Int}{name:kB}{v:LVal}(h:Inv s (d+1))(g:v.ok s.H.objects.length):Inv (s.write sc name v) d/\Ext s (s.write sc name v):=h.near (Zla g)
def Z5b{sc:Int}{name:kB}{v:LVal}(h:Inv s (d+1))(g:v.ok s.H.objects.length):Inv (s.bindTo sc name v) d/\Ext s (s.bindTo sc name v):=by
 unfold MSt.bindTo;split;·exact Uw h g Py Py
 .exact Z87 h g
def Z8s{sc:Int}{name:kB}(h:Inv s (d+1)):Inv (s.loose sc name) d/\Ext s (s.loose sc name):=by
 unfold MSt.loose;split;·exact⟨h.less Px,Ext.refl _⟩
 .split;·exact Ez h (sn _)
  .exact Uw h (sn _) Py Py
theorem Z4g{β:Type}(f:MSt->β->MSt)(c:Nat)(g:MSt)(P:β->Prop)(hf:∀s d b,P b->Ext g s->Inv s (d+c)->Inv (f s b) d/\Ext s (f s b)) :
 ∀(l:List β) (s:MSt) (d:Nat),(∀b∈l,P b)->Ext g s->Inv s (d+c*l.length)->Inv (l.foldl f s) d/\Ext s (l.foldl f s)
 | [],s,d,_,_,h=>⟨h.less PE,Ext.refl _⟩
 |b::l,s,d,m,p,h=>by
   obtain⟨h1,u⟩:=hf s (d+c*l.length) b (m b PE) p (h.less (by rw[List.length_cons,Nat.mul_succ];omega));obtain⟨y,F⟩:=Z4g f c g P hf l (f s b) d (λx hx=>m x RH) (p.trans u) h1;exact⟨y,u.trans F⟩
def VO{l:List NT}{sc:Int}(h:Inv s (d+l.length)):Inv (s.lets l sc) d/\Ext s (s.lets l sc):=
 Z4g _ 1 s (λ_=>True) (λs d b _ _ h=>Uw h (sn _) (by split<;>decide) (by split<;>decide)) l s d (λ_ _=>trivial) (Ext.refl _) RZ
def Zi8{l:List kB}{sc:Int}(h:Inv s (d+l.length)):Inv (s.vars l sc) d/\Ext s (s.vars l sc):=
 Z4g _ 1 s (λ_=>True) (λs d b _ _ h=>Uw h (sn _) Py Py) l s d (λ_ _=>trivial) (Ext.refl _) RZ
def Zcq{l:List kB}{sc:Int}(h:Inv s (d+l.length)):Inv (s.looses l sc) d/\Ext s (s.looses l sc):=
 Z4g _ 1 s (λ_=>True) (λs d b _ _ h=>Z8s h) l s d (λ_ _=>trivial) (Ext.refl _) RZ
def Z74{n:NT}{sc:Int}{fr:Frm}(h:Inv s (d+4))(hn:KU n)(m:0<=sc)(h1:sc<s.H.scopes.length) :
 Inv (s.funS n sc fr) d/\Ext s (s.funS n sc fr)/\(s.funS n sc fr).H.objects.length=s.H.objects.length+1:=by
 unfold MSt.funS;cases hnm:n.named with
 |true=>
   simp only[if_true];obtain⟨p,a2⟩:=h.opens (d:=d+3) (outer:=sc) (object:=-1) (owner:=n.num) Px h1 Py Px;have hl:(s.opens sc (-1) n.num).H.scopes.length=s.H.scopes.length+1:=by simp[MSt.opens]
   obtain⟨b1,b2⟩:=p.clos (d:=d+2) (c:=⟨n,s.next,fr.strict||(n.kid 1).strict⟩) ⟨hn,by show(0:Int)<=s.H.scopes.length;omega,by show(s.H.scopes.length:Int)<_;rw[hl];omega⟩;obtain⟨c1,c2⟩:=b1.object (d:=d+1) (code:=3+s.clos.length) Px (by simp[MSt.opens];omega);have g:((({s.opens sc (-1) n.num with clos:=(s.opens sc (-1) n.num).clos++[⟨n,s.next,fr.strict||(n.kid 1).strict⟩]}:MSt).object (3+s.clos.length))).H.objects.length=s.H.objects.length+1:=by simp[MSt.object,MSt.setH,MSt.opens]
   obtain⟨u,y⟩:=Uw (sc:=s.next) (kind:=3) (name:=n.text) (v:=.ref s.nextO) c1 (Te (by show(0:Int)<=s.H.objects.length;omega) (by rw[g];show(s.H.objects.length:Int)<_;omega)) Py Py;refine⟨u,((a2.trans b2).trans c2).trans y,?_⟩
   have:=(Z6l (H:=((({s.opens sc (-1) n.num with clos:=(s.opens sc (-1) n.num).clos++[⟨n,s.next,fr.strict||(n.kid 1).strict⟩]}:MSt).object (3+s.clos.length))).H) (n:=s.next) (name:=n.text) (kind:=3) (v:=.ref s.nextO) (Te (by show(0:Int)<=s.H.objects.length;omega) (by rw[g];show(s.H.objects.length:Int)<_;omega)) Py Py).lo;show(LHeap.declare _ _ _ _ _).1.objects.length=_;rw[this,g]
 |false=>
   simp only[Bool.false_eq_true,if_false];obtain⟨b1,b2⟩:=h.clos (d:=d+3) (c:=⟨n,sc,fr.strict||(n.kid 1).strict⟩) ⟨hn,m,h1⟩;obtain⟨c1,c2⟩:=b1.object (d:=d+2) (code:=3+s.clos.length) Px PB;exact⟨c1.less Px,b2.trans c2,by simp[MSt.object,MSt.setH]⟩
def Z6k{p:MSt->kB->MSt}{g:MSt->kB->LVal->MSt}{l:List NT}{sc:Int}{fr:Frm}(h:Inv s (d+6*l.length))(hl:∀n∈l,KU n)(F:0<=sc)(h1:sc<s.H.scopes.length)
 (hp:∀u e x,Ext s u->Inv u (e+1)->Inv (p u x) e/\Ext u (p u x))(G:∀u e x v,Ext s u->Inv u (e+1)->v.ok u.H.objects.length->Inv (g u x v) e/\Ext u (g u x v)) :
 Inv (s.funcs p g l sc fr) d/\Ext s (s.funcs p g l sc fr):=by
 unfold MSt.funcs;refine Z4g _ 6 s KU (λu e n hn m hi=>?_) l s d hl (Ext.refl _) h;obtain⟨I,a2⟩:=hp u (e+5) n.text m hi;have y:=m.trans a2;obtain⟨b1,b2,b3⟩:=Z74 (d:=e+1) (sc:=sc) (fr:=fr) I hn F (by have:=y.ls;omega);obtain⟨c1,c2⟩:=G _ e n.text (.ref (p u n.text).nextO) (y.trans b2) b1 (Te (by show(0:Int)<=(p u n.text).H.objects.length;omega) (by rw[b3];show((p u n.text).H.objects.length:Int)<_;omega));exact⟨c1,(a2.trans b2).trans c2⟩
def Zdt{n:NT}{sc:Int}{name:kB}(h:Inv s (d+1)):Inv (s.look n sc name) d/\Ext s (s.look n sc name):=by
 unfold MSt.look;split;·exact h.seen
 .exact⟨h.less Px,Ext.refl _⟩
def Zig{n:NT}{sc:Int}{name:kB}:(s.look n sc name).H=s.H/\(s.look n sc name).steps=s.steps/\(s.look n sc name).calls=s.calls:=by
 unfold MSt.look;split<;>exact⟨rfl,rfl,rfl⟩
theorem Z97{sc:Int}:∀(l:List NT) (vs:List LVal) (s:MSt) (d:Nat),Inv s (d+l.length)->(∀v∈vs,v.ok s.H.objects.length)->Inv (MSt.params sc l vs s) d/\Ext s (MSt.params sc l vs s)
 | [],vs,s,d,h,_=>⟨h.less PE,Ext.refl _⟩
 |p::l,vs,s,d,h,g=>by
   have h1:(vs.headD LVal.zero).ok s.H.objects.length:=by
    cases vs with
    |nil=>exact sn _
    |cons v vs=>exact g v PE
   obtain⟨m,a2⟩:=Z5b (d:=d+l.length) (sc:=sc) (name:=p.text) (h.less Rc) h1;obtain⟨b1,b2⟩:=Z97 l vs.tail _ d m (λv hm=>(g v (List.mem_of_mem_tail hm)).mono a2.lo);exact⟨b1,a2.trans b2⟩
theorem Zaa{o:Int}:∀(vs:List LVal) (i:Nat) (s:MSt) (d:Nat),Inv s (d+vs.length)->(∀v∈vs,v.ok s.H.objects.length)->Inv (MSt.argsPut o i vs s) d/\Ext s (MSt.argsPut o i vs s)
 | [],i,s,d,h,_=>⟨h.less PE,Ext.refl _⟩
 |v::l,i,s,d,h,g=>by
   obtain⟨m,a2⟩:=Ez (d:=d+l.length) (o:=o) (name:=MSt.argN i) (fx:=false) (h.less Rc) (g v PE);obtain⟨b1,b2⟩:=Zaa l (i+1) _ d m (λx hm=>(g x (by simp[hm])).mono a2.lo);exact⟨b1,a2.trans b2⟩
def Zac{sc:Int}{vs:List LVal}(h:Inv s (d+vs.length+3))(g:∀v∈vs,v.ok s.H.objects.length)(hl:vs.length<=1000000000):Inv (s.argsObj sc vs) d/\Ext s (s.argsObj sc vs):=by
 unfold MSt.argsObj;obtain⟨m,a2⟩:=h.object (d:=d+vs.length+2) (code:=0) Py Px;have F:(s.object 0).H.objects.length=s.H.objects.length+1:=Rn
 obtain⟨b1,b2⟩:=Ez (d:=d+vs.length+1) (o:=s.nextO) (name:=ZW) (v:=.num vs.length) (fx:=false) m (Zic Px Px);obtain⟨c1,c2⟩:=Zaa (o:=s.nextO) vs 0 _ (d+1) (b1.less Px) (λv hm=>(g v hm).mono (Y4 a2.lo b2.lo));have p:=((a2.trans b2).trans c2)
 obtain⟨u,y⟩:=Uw (sc:=sc) (kind:=0) (name:=Za) (v:=.ref s.nextO) c1 (Te (by show(0:Int)<=s.H.objects.length;omega) (by
  have h1:=b2.lo;have I:=c2.lo;show(s.H.objects.length:Int)<_;omega)) Py Py
 exact⟨u,p.trans y⟩
end
inductive Anc(H:LHeap)(v:Int):Int->Prop
 |refl:Anc H v v
 |up {sc:Int} {c:LScope}:H.scope? sc=some c->Anc H v c.outer->Anc H v sc
structure Root(s:MSt):Prop where
 glob:s.glob=0
 outer:s.outer=0
 top:s.top=1
 objs:0<s.H.objects.length
 many:2<=s.H.scopes.length
 one:∃c,s.H.scopes[1]?=some c/\c.outer=0
structure FAt(s:MSt)(sc:Int)(fr:Frm):Prop where
 root:Root s
 lo:0<=sc
 hi:sc<s.H.scopes.length
 anc:Anc s.H fr.vars sc
 vlo:0<=fr.vars
theorem scope?_ext{s t:MSt}(h:Ext s t){i:Int}{c:LScope}(hc:s.H.scope? i=some c):∃c',t.H.scope? i=some c'/\c'.outer=c.outer/\c'.object=c.object:=by
 obtain⟨m,rfl,hm⟩:=LHeap.scope?_some hc;obtain⟨c',h1,g,p⟩:=h.scp m c hm;exact⟨c',by unfold LHeap.scope?;rw[Y3 Px];exact h1,g,p⟩
def Anc.ext{s t:MSt}(h:Ext s t){v sc:Int}(a:Anc s.H v sc):Anc t.H v sc:=by
 induction a with
 |refl=>exact .refl
 |up hc _ g=>
   obtain⟨c',h1,m,_⟩:=scope?_ext h hc;exact .up h1 (by rw[m];exact g)
def Root.ext{s t:MSt}(r:Root s)(h:Ext s t):Root t:=by
 obtain⟨c,h1,g⟩:=r.one;obtain⟨c',m,p,_⟩:=h.scp 1 c h1;exact⟨h.glob.trans r.glob,h.outer.trans r.outer,h.top.trans r.top,Y7 r.objs h.lo,Y4 r.many h.ls,c',m,p.trans g⟩
theorem FAt.ext{s t:MSt}{sc:Int}{fr:Frm}(a:FAt s sc fr)(h:Ext s t):FAt t sc fr:=⟨a.root.ext h,a.lo,by have:=h.ls;have:=a.hi;omega,a.anc.ext h,a.vlo⟩
theorem FAt.opens{s:MSt}{sc:Int}{fr:Frm}{object owner:Int}(a:FAt s sc fr)(h:Ext s (s.opens sc object owner)):FAt (s.opens sc object owner) s.next fr:=by
 have hl:(s.opens sc object owner).H.scopes.length=s.H.scopes.length+1:=by simp[MSt.opens]
 refine⟨a.root.ext h,by show(0:Int)<=s.H.scopes.length;omega,by rw[hl];show(s.H.scopes.length:Int)<_;omega,?_,a.vlo⟩;refine .up (c:=⟨sc,object,[]⟩) ?_ (a.anc.ext h);unfold LHeap.scope? MSt.next;rw[Y3 Px];simp[MSt.opens]
def Fin{α:Type}(s:MSt)(d:Nat)(Q:MSt->α->Prop)(r:MSt×Except Er α):Prop:=
 Inv r.1 d/\Ext s r.1/\r.1.calls=s.calls/\match r.2 with
  | .ok v=>Q r.1 v/\r.1.steps<=20000
  | .error .stop=>r.1.steps=20001
  | .error (.thr v)=>v.ok r.1.H.objects.length/\r.1.steps<=20000
section
variable {α β:Type}{s s1:MSt}{d e:Nat}{Q:MSt->α->Prop}{R:MSt->β->Prop}
theorem Fin.ok{v:α}(h:Inv s1 d)(x:Ext s s1)(hc:s1.calls=s.calls)(hs:s1.steps<=20000)(hq:Q s1 v):Fin s d Q (d9 v s1):=⟨h,x,hc,hq,hs⟩
theorem Fin.thr{v:LVal}(h:Inv s1 d)(x:Ext s s1)(hc:s1.calls=s.calls)(hs:s1.steps<=20000)(hq:v.ok s1.H.objects.length):Fin s d Q (r' (.thr v) s1):=⟨h,x,hc,hq,hs⟩
theorem Fin.raise{t:kB}(h:Inv s1 d)(x:Ext s s1)(hc:s1.calls=s.calls)(hs:s1.steps<=20000)(ht:t.size<=500):Fin s d Q (tE t s1):=Fin.thr h x hc hs (Zdy ht)
def Fin.bind{m:RM α}{k:α->RM β}(h:Fin s d Q (m s))(hk:∀t v,Inv t d->Ext s t->t.calls=s.calls->t.steps<=20000->Q t v->Fin t e R (k v t))(he:e<=d):Fin s e R (Zx m k s):=by
 obtain⟨h1,g,p,u⟩:=h;unfold Zx;split
 .rename_i t v hr;rw[hr]at h1 g p u;obtain⟨y,F,G,I⟩:=hk t v h1 g p u.2 u.1;exact⟨y,g.trans F,G.trans p,I⟩
 .rename_i t x hr;rw[hr]at h1 g p u;refine⟨h1.less he,g,p,?_⟩;cases x<;>exact u
theorem Fin.pre{r:MSt×Except Er α}(x:Ext s s1)(hc:s1.calls=s.calls)(h:Fin s1 d Q r):Fin s d Q r:=⟨h.1,x.trans h.2.1,h.2.2.1.trans hc,h.2.2.2⟩
theorem Fin.less{r:MSt×Except Er α}(h:Fin s d Q r)(he:e<=d):Fin s e Q r:=⟨h.1.less he,h.2⟩
end
def VQ(t:MSt)(v:LVal):Prop:=v.ok t.H.objects.length
def DQ(t:MSt)(r:Bool×LVal):Prop:=r.2.ok t.H.objects.length
theorem VQ.ext{s t:MSt}{v:LVal}(h:VQ s v)(x:Ext s t):VQ t v:=LVal.ok.mono h x.lo
def VH(V:VF)(b:Int):Prop:=∀n sc fr s d,n.wf .v->n.tree.many<=1500->Inv s d->FAt s sc fr->b<=s.steps->s.steps<=20000->Fin s d VQ (V n sc fr s)/\s.steps<(V n sc fr s).1.steps
def DH(D:DF)(b:Int):Prop:=∀n sc fr s d,n.wf .s->n.tree.many<=1500->Inv s d->FAt s sc fr->b<=s.steps->s.steps<=20000->Fin s d DQ (D n sc fr s)/\s.steps<(D n sc fr s).1.steps
section
variable {n:NT}
theorem Z6:n.tree.kind=n.kind:=by cases n;rfl
theorem Zko:n.tree.text=n.text:=by cases n;rfl
theorem Zvt:n.tree.n=n.n:=by cases n;rfl
theorem K9:n.tree.kids=rq n.kids:=by cases n;rfl
theorem Z3i:∀l:List NT,rq l=l.map NT.tree
 | []=>rfl
 |x::l=>by rw[rq,Z3i l];rfl
theorem Z79{l:List NT}(h:rq l=[]):l=[]:=by cases l with|nil=>rfl|cons x l=>simp[rq]at h
def UE{l:List NT}{t:Tree}{r:List Tree}(h:rq l=t::r):∃x g,l=x::g/\x.tree=t/\rq g=r:=by
 cases l with
 |nil=>simp[rq]at h
 |cons x l=>simp only[rq,List.cons.injEq]at h;exact⟨x,l,rfl,h.1,h.2⟩
theorem Zfu(h:n.tree.kids=[]):n.kids=[]:=by rw[K9]at h;exact Z79 h
def Sm{x:Tree}(h:n.tree.kids=[x]):∃a,n.kids=[a]/\a.tree=x:=by
 rw[K9]at h;obtain⟨a,l,h1,g,m⟩:=UE h;rw[Z79 m]at h1;exact⟨a,h1,g⟩
def UN{x y:Tree}(h:n.tree.kids=[x,y]):∃a b,n.kids=[a,b]/\a.tree=x/\b.tree=y:=by
 rw[K9]at h;obtain⟨a,l,h1,m,p⟩:=UE h;obtain⟨b,G,g,u,F⟩:=UE p;rw[Z79 F]at g;rw[g]at h1;exact⟨a,b,h1,m,u⟩
def Zsc{x y z:Tree}(h:n.tree.kids=[x,y,z]):∃a b c,n.kids=[a,b,c]/\a.tree=x/\b.tree=y/\c.tree=z:=by
 rw[K9]at h;obtain⟨a,l,h1,p,u⟩:=UE h;obtain⟨b,O,g,F,G⟩:=UE u;obtain⟨c,U,m,I,J⟩:=UE G;rw[Z79 J]at m;rw[m]at g;rw[g]at h1;exact⟨a,b,c,h1,p,F,I⟩
theorem Z94:qc (rq n.kids)+1=n.tree.many:=by cases n;simp only[NT.kids,NT.tree,Tree.many]
theorem Zqq(t:Tree):1<=t.many:=by cases t;simp only[Tree.many];omega
def Zo4{l:List NT}{x:NT}(h:x∈l):x.tree.many<=qc (rq l):=by
 induction l with
 |nil=>cases h
 |cons y l ih=>
   simp only[rq,qc];exact Zxg
theorem Em{x:NT}(h:x∈n.kids):x.tree.many<n.tree.many:=by have:=Zo4 h;have:=Z94 (n:=n);omega
def SP:n.kids.length<n.tree.many:=by
 have h:∀l:List Tree,l.length<=qc l:=by
  intro l;induction l with
  |nil=>simp[qc]
  |cons x l g=>have:=Zqq x;simp only[qc,List.length_cons];omega
 have h:=h (rq n.kids);have m:=Z94 (n:=n);have p:(rq n.kids).length=n.kids.length:=by rw[Z3i,Ym]
 omega
mutual
theorem Zn5:∀(x:NT) (g:List kB),(YM x g).length<=g.length+x.tree.many
 | .mk i k t m l,g=>by
   unfold YM;split;·omega
   .have h:=Z8x l (if k=2 then jf g t else g);have p:(if k=2 then jf g t else g).length<=g.length+1:=by
     split;·exact Zi6 g t
     .omega
    simp only[NT.tree,Tree.many];omega
theorem Z8x:∀(l:List NT) (g:List kB),(V' l g).length<=g.length+qc (rq l)
 | [],g=>by simp[V',rq,qc]
 |x::l,g=>by
   have h1:=Zn5 x g;have m:=Z8x l (YM x g);simp only[V',rq,qc];omega
end
def Z7y:n.vars.length<=n.tree.many:=by
 have h:=Z8x n.kids [];have g:=Z94 (n:=n);unfold NT.vars;simp only[List.length_nil]at h;omega
theorem Z70:n.lets.length<=n.kids.length:=List.length_filter_le _ _
theorem Z6w:n.funcs.length<=n.kids.length:=List.length_filter_le _ _
def NT.stm(x:NT):Prop:=Wf .sl (rq x.kids)
theorem Zof(h:n.stm){x:NT}(hx:x∈n.kids):x.wf .s:=Zwk h (by rw[Z3i];exact List.mem_map.2 ⟨x,hx,rfl⟩)
def V1(h:n.stm)(hm:n.tree.many<=1500):∀x∈n.funcs,KU x:=by
 intro x hx;obtain⟨h1,g⟩:=List.mem_filter.1 hx;have hk:=Em h1;exact⟨.inl ⟨by simpa using g,Zof h h1⟩,by omega⟩
def Z8g(h:KU n):∃p b,n.kids=[p,b]/\p.kids.length<=1500/\b.stm/\b.kind=6/\b.tree.many<=1500/\Wf .pl (rq p.kids):=by
 have g:∃l b,n.tree.kids=[.mk 40 ByteArray.empty 0 l,b]/\Wf .pl l/\Wf .b [b]:=by
  rcases h.1 with⟨hk,hw⟩|⟨hk,hw⟩;·exact(ws5 hw P8).2
  .exact(Ac6 hw P8).2
 obtain⟨l,b,h1,u,y⟩:=g;obtain⟨p,q,g1,F,m⟩:=UN h1;have hp:=Em (n:=n) (x:=p) PT;have hq:=Em (n:=n) (x:=q) PT;have I:=SP (n:=p);have hm:=h.2;obtain⟨b1,b2,b3⟩:=wb y;refine⟨p,q,g1,by omega,?_,by rw[<-Z6,m];exact b1,by omega,?_⟩;·unfold NT.stm;rw[<-K9,m];exact b2
 .rw[<-K9,F];exact u
end
section
variable {V:VF}{D:DF}{b:Int}{n:NT}{sc:Int}{fr:Frm}{s:MSt}{d:Nat}
theorem K0:Tp.size<=500/\wW.size<=500/\T3.size<=500/\SO.size<=500/\XJ.size<=500:=⟨by decide,by decide,by decide,by decide,by decide⟩
theorem So{x:NT}{l:List NT}(h:n.kids=x::l):n.kid 0=x:=by unfold NT.kid;rw[h];rfl
theorem Vs{x y:NT}{l:List NT}(h:n.kids=x::y::l):n.kid 1=y:=by unfold NT.kid;rw[h];rfl
theorem Ztt{x y z:NT}{l:List NT}(h:n.kids=x::y::z::l):n.kid 2=z:=by unfold NT.kid;rw[h];rfl
def Zd1{a:Int}{name:kB}{v:LVal}(h:Inv s (d+1))(m:v.ok s.H.objects.length)(hs:s.steps<=20000):Fin s d (λ_ _=>True) (Sr a name v fr s):=by
 unfold Sr;split
 .split;·exact Fin.raise (h.less Px) (Ext.refl _) rfl hs K0.1
  .obtain⟨h1,g⟩:=Ez (o:=(if 0<=a/\0<=s.H.objectOf a then s.H.objectOf a else s.glob)) (name:=name) (fx:=false) h m;exact Fin.ok h1 g rfl hs trivial
 .obtain⟨h1,g⟩:=Z87 (sc:=a) (name:=name) h m;simp only;split;·exact Fin.raise h1 g rfl hs K0.1
  .split;·exact Fin.raise h1 g rfl hs K0.2.1
   .split;·exact Fin.raise h1 g rfl hs K0.2.1
    .exact Fin.ok h1 g rfl hs trivial
def Zsk{H:LHeap}{o:Int}{name:kB}{k:Nat}(h:∀x∈H.objects,∀p∈x.props,p.v.ok k):((H.get o name).getD LVal.zero).ok k:=by
 unfold LHeap.get;cases hob:H.object? o with
 |none=>exact sn _
 |some x=>
   obtain⟨m,rfl,hm⟩:=LHeap.object?_some hob;simp only[Option.bind_some];cases hi:x.idx name with
   |none=>exact sn _
   |some i=>
     simp only[Option.bind_some];cases hp:x.props[i]? with
     |none=>exact sn _
     |some p=>exact h x (Yd hm) p (Yd hp)
def Zu9{a:Int}{name:kB}(h:Inv s d):(s.H.read a name).1.ok s.H.objects.length:=by
 unfold LHeap.read;cases hc:s.H.scope? a with
 |none=>exact sn _
 |some c=>
   obtain⟨m,rfl,hm⟩:=LHeap.scope?_some hc;simp only;split
   .split;·exact sn _
    .rename_i x hx;split
     .cases hi:c.idx name with
      |none=>rw[hi]at hx;cases hx
      |some i=>
        rw[hi]at hx;exact((h.scp c (Yd hm)).2.2.1 x (Yd hx)).1
     .exact sn _
   .split;·exact sn _
    .rename_i v g;have:=Zsk (H:=s.H) (o:=c.object) (name:=name) (k:=s.H.objects.length) (λx hx=>(h.obj x hx).2.2.1);rw[g]at this;exact this
def Zr8(h:Inv s (d+1))(hs:s.steps<=20000):Fin s d VQ (ZF n sc s):=by
 unfold ZF;obtain⟨h1,g⟩:=Zdt (n:=n) (sc:=sc) (name:=n.text) h;obtain⟨p,u,m⟩:=Zig (s:=s) (n:=n) (sc:=sc) (name:=n.text);split;·exact Fin.raise h1 g m Px K0.1
 .split;·exact Fin.raise h1 g m Px K0.1
  .exact Fin.ok h1 g m Px (by unfold VQ;rw[p];exact Zu9 h)
def VH.at(g:VH V b){x:NT}(hx:x∈n.kids)(hw:x.wf .v)(hm:n.tree.many<=1500)(h:Inv s d)(a:FAt s sc fr)(hb:b<=s.steps)(hs:s.steps<=20000):Fin s d VQ (V x sc fr s):=
 (g x sc fr s d hw (by have:=Em hx;omega) h a hb hs).1
def Ztk(p:VH V b)(hw:n.wf .v)(hk:n.kind=24)(hm:n.tree.many<=1500)(h:Inv s (d+2))(a:FAt s sc fr)(hb:b<=s.steps)(hs:s.steps<=20000):Fin s d VQ (qx V n sc fr s):=by
 obtain⟨x',y',h1,h2,h3,U⟩:=AaH hw P8;obtain⟨x,y,g1,rfl,rfl⟩:=UN h1;unfold qx;rw[So g1,Vs g1];have X:y∈n.kids:=PT
 have mx:x∈n.kids:=PT
 split
 .obtain⟨F,i2⟩:=Zdt (n:=x) (sc:=sc) (name:=x.text) (d:=d+1) h;obtain⟨e1,e2,e3⟩:=Zig (s:=s) (n:=x) (sc:=sc) (name:=x.text);refine Fin.pre i2 e3 (Fin.bind (p.at X U hm F (a.ext i2) Px Px) (λt v I j2 j3 J O=>?_) Px);refine Fin.bind (Zd1 I O J) (λu _ g Y k3 m _=>?_) (Y0 _);exact Fin.ok g (Ext.refl _) rfl m (VQ.ext O Y)
 .rename_i aR;have LW:x.tree.kind=36:=by rw[Z6]at h2 ⊢;omega
  obtain⟨_,z',g3,g4⟩:=Tq h3 LW;obtain⟨z,Z,rfl⟩:=Sm g3;rw[So Z];have mz:z∈x.kids:=by rw[Z];simp
  have OH:=Em mx;refine Fin.bind (p.at mz g4 Px h a hb hs) (λt o I j2 j3 J O=>?_) Px;refine Fin.bind (p.at X U hm I (a.ext j2) Qz J) (λu v g Y k3 m k5=>?_) Px;split
  .obtain⟨F,i2⟩:=Ez (d:=d+1) (o:=o.n) (name:=x.text) (fx:=false) g k5;exact Fin.ok (F.less Px) i2 rfl m (VQ.ext k5 i2)
  .exact Fin.raise (g.less Px) (Ext.refl _) rfl m K0.2.1
def Zkt{x:NT}(u:VH V b)(hw:x.wf .v)(hm:x.tree.many<=1500)(h:Inv s (d+1))(a:FAt s sc fr)(hb:b<=s.steps)(hs:s.steps<=20000):Fin s d VQ (K' V x sc fr s):=by
 unfold K';split
 .dsimp only
  split;·exact Fin.ok (h.less Px) (Ext.refl _) rfl hs (U' _)
  .obtain⟨m,i2⟩:=h.near (Zli (n:=s.H.find sc x.text) (name:=x.text));exact Fin.ok m i2 rfl hs (U' _)
 .split
  .rename_i hk;obtain⟨_,z',F,I⟩:=Tq hw P8;obtain⟨z,y,rfl⟩:=Sm F;rw[So y];refine Fin.bind (u.at (by rw[y];simp) I hm h a hb hs) (λt o p J O g U=>?_) Px;split
   .obtain⟨m,i2⟩:=p.near (Zi7 (n:=o.n) (name:=x.text));simp only;split;·exact Fin.ok m i2 rfl g (U' _)
    .split;·exact Fin.raise m i2 rfl g K0.2.1
     .exact Fin.ok m i2 rfl g (U' _)
   .exact Fin.raise (p.less Px) (Ext.refl _) rfl g K0.2.1
  .refine Fin.bind ((u x sc fr s (d+1) hw hm h a hb hs).1) (λt o p J O g U=>?_) Px;exact Fin.ok (p.less Px) (Ext.refl _) rfl g (U' _)
def Zb2{m:Int}(h:Inv s d)(hs:s.steps<=20000):Fin s d VQ (TM m s):=by
 unfold TM;split;·exact Fin.raise h (Ext.refl _) rfl hs K0.2.2.1
 .exact Fin.ok h (Ext.refl _) rfl hs (Zic Px Px)
def Zke{k:Int}{x y:LVal}(h:Inv s d)(hs:s.steps<=20000):Fin s d VQ (Ue k x y s):=by
 unfold Ue;split;·exact Fin.ok h (Ext.refl _) rfl hs (U' _)
 .split
  .split;·exact Fin.ok h (Ext.refl _) rfl hs (U' _)
   .split;·exact Zb2 h hs
    .split;·exact Zb2 h hs
     .exact Zb2 h hs
  .split;·exact Fin.ok h (Ext.refl _) rfl hs (U' _)
   .split
    .dsimp only
     split;·exact Fin.raise h (Ext.refl _) rfl hs K0.2.2.1
     .exact Fin.ok h (Ext.refl _) rfl hs (Zdy Px)
    .exact Fin.raise h (Ext.refl _) rfl hs K0.2.1
def Zk7(H:LHeap)(v:LVal):(Ul H v).size<=500:=by
 unfold Ul;repeat' split
 all_goals decide
theorem Zi9(g:VH V b):∀(l:List NT) (s:MSt),(∀x∈l,x.wf .v/\x.tree.many<=1500)->Inv s d->FAt s sc fr->b<=s.steps->s.steps<=20000->Fin s d (λt vs=>(∀v∈vs,VQ t v)/\vs.length=l.length) (Sv V sc fr l s)
 | [],s,_,h,a,hb,hs=>Fin.ok h (Ext.refl _) rfl hs ⟨(λv p=>by cases p),rfl⟩
 |x::l,s,hl,h,a,hb,hs=>by
   refine Fin.bind ((g x sc fr s d (hl x PE).1 (hl x PE).2 h a hb hs).1) (λt v F j2 Y I J=>?_) (Y0 _);refine Fin.bind (Zi9 g l t (λy hy=>hl y Sb) F (a.ext j2) Qz I) (λu vs O U Z X m=>?_) (Y0 _);refine Fin.ok O (Ext.refl _) rfl X ⟨λw hw=>?_,by rw[List.length_cons,List.length_cons,m.2]⟩;rcases List.mem_cons.1 hw with rfl|hw;·exact VQ.ext J U
   .exact m.1 w hw
theorem Zev(g:VH V b){o:Int}:∀(l:List NT) (s:MSt),(∀k∈l,∃x,k.kids=[x]/\x.wf .v/\x.tree.many<=1500)->Inv s (d+l.length)->FAt s sc fr->b<=s.steps->s.steps<=20000->Fin s d (λ_ _=>True) (TD V sc fr o l s)
 | [],s,_,h,a,hb,hs=>Fin.ok (h.less PE) (Ext.refl _) rfl hs trivial
 |k::l,s,hl,h,a,hb,hs=>by
   obtain⟨x,hx,hw,hm⟩:=hl k PE;unfold TD;rw[So hx];refine Fin.bind ((g x sc fr s _ hw hm h a hb hs).1) (λt v p m J u F=>?_) Px;obtain⟨I,i2⟩:=Ez (d:=d+l.length) (o:=o) (name:=k.text) (fx:=false) (p.less Rc) F;exact Fin.pre i2 rfl (Zev g l _ (λy hy=>hl y Sb) I (a.ext (m.trans i2)) (by have:=m.steps;have:=i2.steps;omega) u)
theorem Z5f(g:DH D b):∀(l:List NT) (s:MSt),(∀x∈l,x.wf .s/\x.tree.many<=1500)->Inv s d->FAt s sc fr->b<=s.steps->s.steps<=20000->Fin s d DQ (oB D sc fr l s)
 | [],s,_,h,a,hb,hs=>Fin.ok h (Ext.refl _) rfl hs (sn _)
 |x::l,s,hl,h,a,hb,hs=>by
   refine Fin.bind ((g x sc fr s d (hl x PE).1 (hl x PE).2 h a hb hs).1) (λt r m j2 F p u=>?_) (Y0 _);split;·exact Fin.ok m (Ext.refl _) rfl p u
   .exact Z5f g l t (λy hy=>hl y Sb) m (a.ext j2) Qz p
theorem X8(h:n.stm)(hm:n.tree.many<=1500):∀x∈n.kids,x.wf .s/\x.tree.many<=1500:=λx hx=>⟨Zof h hx,by have:=Em hx;omega⟩
def Zcb{c:Clo}{vs:List LVal}(h:Inv s (d+17000))(r:Root s)(hc:KU c.node/\0<=c.scope/\c.scope<s.H.scopes.length)(m:∀v∈vs,VQ s v)(hl:vs.length<=1500) :
 Inv (s.enterS c vs) d/\Ext s (s.enterS c vs)/\FAt (s.enterS c vs) s.next ⟨c.strict,s.next⟩:=by
 obtain⟨p,q,J,g2,g3,g4,g5,g6⟩:=Z8g hc.1;have hq:=SP (n:=q);have l1:=Z7y (n:=q);have l2:=Z70 (n:=q);have l3:=Z6w (n:=q);unfold MSt.enterS;rw[So J,Vs J];dsimp only
 obtain⟨a1,a2⟩:=h.opens (d:=d+16999) (outer:=c.scope) (object:=-1) (owner:=c.node.num) Px hc.2.2 Py Px;have aE:(s.opens c.scope (-1) c.node.num).H.scopes.length=s.H.scopes.length+1:=by simp[MSt.opens]
 obtain⟨b1,b2⟩:=Z97 (sc:=s.next) p.kids vs _ (d+15499) (a1.less Px) (λv hm=>VQ.ext (m v hm) a2);have I:=a2.trans b2;obtain⟨y,cf⟩:=zX (MSt.params s.next p.kids vs (s.opens c.scope (-1) c.node.num))
 rw[<-cf]at b1 b2 I ⊢;obtain⟨F,O⟩:=zX ((if(y.H.has s.next Za||q.hasName Za)=true then y else y.argsObj s.next vs))
 rw[<-O];have Ix:Inv F (d+13996)/\Ext y F:=by
  rw[O];split;·exact⟨b1.less Px,Ext.refl _⟩
  .exact Zac (b1.less Px) (λv hm=>VQ.ext (m v hm) I) Px
 obtain⟨c1,c2⟩:=Ix;have x3:=I.trans c2;obtain⟨d1,U⟩:=Zi8 (l:=q.vars) (sc:=s.next) (d:=d+12496) (c1.less Px);obtain⟨e1,X⟩:=VO (l:=q.lets) (sc:=s.next) (d:=d+10996) (d1.less Px);have x5:=(x3.trans U).trans X;have aZ:s.next<((F.vars q.vars s.next).lets q.lets s.next).H.scopes.length:=by
  have h1:=((b2.trans c2).trans U).trans X;have h2:=h1.ls;show(s.H.scopes.length:Int)<_;omega
 obtain⟨f1,Y⟩:=Z6k (p:=λs _=>s) (g:=λt x v=>t.bindTo s.next x v) (s:=(F.vars q.vars s.next).lets q.lets s.next) (d:=d) (l:=q.funcs) (sc:=s.next) (fr:=⟨c.strict,s.next⟩) (e1.less Px) (V1 g3 g5) (by show(0:Int)<=s.H.scopes.length;omega) aZ
  (λu e x _ hi=>⟨hi.less Px,Ext.refl _⟩) (λu e x v _ hi m=>Z5b hi m)
 have Z:=x5.trans Y;exact⟨f1,Z,r.ext Z,by show(0:Int)<=s.H.scopes.length;omega,by have:=Y.ls;omega,.refl,by show(0:Int)<=s.H.scopes.length;omega⟩
def Z6h{n:NT}:(s.funS n sc fr).calls=s.calls/\(s.funS n sc fr).steps=s.steps:=by
 unfold MSt.funS;cases n.named<;>exact⟨rfl,rfl⟩
def Z5j{x:kB}{v:LVal}:(s.bindTo sc x v).calls=s.calls/\(s.bindTo sc x v).steps=s.steps:=by
 unfold MSt.bindTo;split<;>exact⟨rfl,rfl⟩
def Zc2{x:kB}:(s.loose sc x).calls=s.calls/\(s.loose sc x).steps=s.steps:=by
 unfold MSt.loose;split;·exact⟨rfl,rfl⟩
 .split<;>exact⟨rfl,rfl⟩
theorem Z5i{β:Type}(f:MSt->β->MSt)(hf:∀s b,(f s b).calls=s.calls/\(f s b).steps=s.steps):∀(l:List β) (s:MSt),(l.foldl f s).calls=s.calls/\(l.foldl f s).steps=s.steps
 | [],s=>⟨rfl,rfl⟩
 |x::l,s=>by
   have h:=Z5i f hf l (f s x);exact⟨h.1.trans (hf s x).1,h.2.trans (hf s x).2⟩
def Z75{p:MSt->kB->MSt}{g:MSt->kB->LVal->MSt}{l:List NT}(hp:∀s x,(p s x).calls=s.calls/\(p s x).steps=s.steps)(m:∀s x v,(g s x v).calls=s.calls/\(g s x v).steps=s.steps) :
 (s.funcs p g l sc fr).calls=s.calls/\(s.funcs p g l sc fr).steps=s.steps:=
 Z5i _ (λs k=>⟨(m _ _ _).1.trans (Z6h.1.trans (hp _ _).1),(m _ _ _).2.trans (Z6h.2.trans (hp _ _).2)⟩) l s
theorem Z7u:∀(l:List NT) (vs:List LVal) (s:MSt),(MSt.params sc l vs s).calls=s.calls/\(MSt.params sc l vs s).steps=s.steps
 | [],vs,s=>⟨rfl,rfl⟩
 |p::l,vs,s=>⟨(Z7u l _ _).1.trans Z5j.1,(Z7u l _ _).2.trans Z5j.2⟩
theorem Z9a{o:Int}:∀(vs:List LVal) (i:Nat) (s:MSt),(MSt.argsPut o i vs s).calls=s.calls/\(MSt.argsPut o i vs s).steps=s.steps
 | [],i,s=>⟨rfl,rfl⟩
 |v::l,i,s=>Z9a l (i+1) (s.put o (MSt.argN i) v false)
theorem Z59{l:List NT}:(s.lets l sc).calls=s.calls/\(s.lets l sc).steps=s.steps:=Z5i (λ(s:MSt) (k:NT)=>s.declare sc k.text (if k.kind=4 then 2 else 1) LVal.zero) (λ_ _=>⟨rfl,rfl⟩) l s
theorem Zmj{l:List kB}:(s.vars l sc).calls=s.calls/\(s.vars l sc).steps=s.steps:=Z5i (λ(s:MSt) (t:kB)=>s.declare sc t 0 LVal.zero) (λ_ _=>⟨rfl,rfl⟩) l s
theorem Zhb{l:List kB}:(s.looses l sc).calls=s.calls/\(s.looses l sc).steps=s.steps:=Z5i (λ(s:MSt) (t:kB)=>s.loose sc t) (λ_ _=>Zc2) l s
def Zbj{c:Clo}{vs:List LVal}:(s.enterS c vs).calls=s.calls/\(s.enterS c vs).steps=s.steps:=by
 unfold MSt.enterS;dsimp only
 have h1:=Z7u (sc:=s.next) (c.node.kid 0).kids vs (s.opens c.scope (-1) c.node.num);obtain⟨m,J⟩:=zX (MSt.params s.next (c.node.kid 0).kids vs (s.opens c.scope (-1) c.node.num))
 rw[<-J]at h1 ⊢;obtain⟨u,y⟩:=zX ((if(m.H.has s.next Za||(c.node.kid 1).hasName Za)=true then m else m.argsObj s.next vs))
 rw[<-y];have F:u.calls=m.calls/\u.steps=m.steps:=by
  rw[y];split;·exact⟨rfl,rfl⟩
  .exact Z9a vs 0 ((m.object 0).put m.nextO ZW (.num vs.length) false)
 have G:=Zmj (s:=u) (sc:=s.next) (l:=(c.node.kid 1).vars);have h5:=Z59 (s:=u.vars (c.node.kid 1).vars s.next) (sc:=s.next) (l:=(c.node.kid 1).lets);have I:=Z75 (s:=(u.vars (c.node.kid 1).vars s.next).lets (c.node.kid 1).lets s.next) (sc:=s.next) (fr:=⟨c.strict,s.next⟩) (p:=λs _=>s) (g:=λt x v=>t.bindTo s.next x v) (l:=(c.node.kid 1).funcs) (λ_ _=>⟨rfl,rfl⟩) (λ_ _ _=>Z5j);exact⟨I.1.trans (h5.1.trans (G.1.trans (F.1.trans h1.1))),I.2.trans (h5.2.trans (G.2.trans (F.2.trans h1.2)))⟩
def Zlq{c:Clo}{vs:List LVal}(g:DH D b)(h:Inv s (d+17000))(r:Root s)(hc:KU c.node/\0<=c.scope/\c.scope<s.H.scopes.length)(m:∀v∈vs,VQ s v)(hl:vs.length<=1500)(hb:b<=s.steps)(hs:s.steps<=20000) :
 Fin s d VQ (U7 D c vs s):=by
 obtain⟨p,q,u,Z,y,g4,F,g6⟩:=Z8g hc.1;obtain⟨h1,I,J⟩:=Zcb h r hc m hl;obtain⟨O,e2⟩:=Zbj (s:=s) (c:=c) (vs:=vs);unfold U7;rw[Vs u];refine Fin.pre I O (Fin.bind (Z5f g q.kids _ (X8 y F) h1 J Px Px) (λt r U j2 j3 X Y=>?_) (Y0 _));refine Fin.ok U (Ext.refl _) rfl X ?_;split;·exact Y
 .exact sn _
end
