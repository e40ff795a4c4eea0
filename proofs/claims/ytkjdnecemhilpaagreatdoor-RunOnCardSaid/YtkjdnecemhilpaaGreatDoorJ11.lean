import Derived.Test.YtkjdnecemhilpaaGreatDoorJ10
set_option maxRecDepth 100000
set_option linter.all false
namespace Go.Proofs.YtkjdnecemhilpaaGreatDoor
open Go Go.RowKit Go.Proofs.Tryz Tryz
def Zc1{text:kB}{j k:Nat}{t:Tok}(h:j4 text j=.ok (t,k)):t.kind≠6/\(t.kind=2->Uk t.text=true)/\(t.kind=5->t.text=text.extract j (j+Zp text j)/\uK (Z5 text j)=false):=by
 unfold j4 at h;simp only at h;split at h
 .rename_i hl;split at h
  .rename_i hw;simp only[Except.ok.injEq,Prod.mk.injEq]at h;obtain⟨rfl,_⟩:=h;exact⟨by simp,λ_=>hw,(λh=>by simp at h)⟩
  .exact ZP
 .rename_i hl;split at h
  .split at h;·cases h
   .exact ZP
  .split at h
   .split at h;·cases h
    .exact ZP
   .split at h;·cases h
    .simp only[Except.ok.injEq,Prod.mk.injEq]at h;obtain⟨rfl,_⟩:=h;exact⟨by simp,(λh=>by simp at h),λ_=>⟨rfl,by simpa using hl⟩⟩
def Zmi{s:kB}(h:Uk s=true):Xo s=0:=by
 refine Decidable.byContradiction λhs=>?_;have g:s=Ez\/s=VG\/s=V3\/s=Ws\/s=Vi\/s=VM\/s=WN:=by
  exact AbT
 have m:∀x,Uk x=false->s=x->False:=λx h1 h2=>by rw[h2,h1]at h;cases h
 rcases g with e|e|e|e|e|e|e;all_goals exact m _ Qh e
def Zeg{s:kB}(h:Zlo s≠0):uK (Z5 s 0)=true/\0<s.size:=by
 unfold Zlo at h;by_cases g:Zh s Tj=true
 .have :s=Tj:=by simpa[Zh]using g
  subst this;exact⟨by kernel_rfl,by decide⟩
 by_cases m:Zh s TY=true
 .have :s=TY:=by simpa[Zh]using m
  subst this;exact⟨by kernel_rfl,by decide⟩
 by_cases o:Zh s Um=true
 .have :s=Um:=by simpa[Zh]using o
  subst this;exact⟨by kernel_rfl,by decide⟩
 by_cases p:Zh s UI=true
 .have :s=UI:=by simpa[Zh]using p
  subst this;exact⟨by kernel_rfl,by decide⟩
 simp[g,m,o,p]at h
def Zj6{text:kB}{j k:Nat}{t:Tok}(m:j<text.size)(h:j4 text j=.ok (t,k)):Zzt t:=by
 obtain⟨_,g,h5⟩:=Zc1 h;refine⟨λhk=>Zmi (g hk),λhk=>?_⟩;obtain⟨ht,hl⟩:=h5 hk;refine Decidable.byContradiction λhc=>?_;obtain⟨hb,hs⟩:=Zeg hc;have o:0<Zp text j:=by
  unfold Zp;split;·omega
  .split;·omega
   .split<;>omega
 have hp:Z5 t.text 0=Z5 text j:=by
  rw[ht];have p:(text.extract j (j+Zp text j)).size<=Zp text j:=by rw[ByteArray.size_extract];omega
  by_cases hk:j+Zp text j<=text.size;·rw[Zi text Qe hk];rfl
  .have e:text.extract j (j+Zp text j)=text.extract j text.size:=by
    apply ByteArray.ext;simp only[ByteArray.data_extract];apply Array.ext
    .simp only[Array.size_extract];have:text.size=text.data.size:=rfl;omega
    .intro i u g;simp only[Array.getElem_extract]
   rw[e,Zi text Qe (Y0 _)];rfl
 rw[hp,hl]at hb;cases hb
def Z9w{text:kB}:∀(r:List Tok) (i:Nat),i<=text.size->S3 text i r->(∃l e,r=l++[e]/\e.kind=6/\∀t∈l,t.kind≠6)/\r.length+i<=text.size+1/\Acj r:=by
 intro r;induction r with
 |nil=>intro i _ h;exact h.elim
 |cons t r o=>
   intro i hi h;cases r with
   |nil=>
     obtain⟨m,g⟩:=h;refine⟨⟨[],t,rfl,by rw[g],λt ht=>by cases ht⟩,by simp;omega,λx hx=>?_⟩;simp only[List.mem_singleton]at hx;subst hx;rw[g];exact⟨λh=>by simp at h,λh=>by simp at h⟩
   |cons u r=>
     obtain⟨k,m,g,p⟩:=h;obtain⟨c1,c2,_⟩:=Xe text m g;obtain⟨s1,_,_,_⟩:=Zv Zt text (text.size-i) i (Y0 _) hi;obtain⟨⟨l,e,y,h5,F⟩,G,I⟩:=o k c2 p;refine⟨⟨t::l,e,by rw[y];rfl,h5,λx hx=>?_⟩,?_,λx hx=>?_⟩
     .rcases List.mem_cons.1 hx with rfl|hx;·exact(Zc1 g).1
      .exact F x hx
     .simp only[List.length_cons]at G ⊢;omega
     .rcases List.mem_cons.1 hx with rfl|hx;·exact Zj6 m g
      .exact I x hx
def xq(s:kB):Prop:=1<=s.size/\s.size<=20/\uK (Z5 s 0)=true/\(∀i,i<s.size->wV (Z5 s i)=true)/\Uk s=false
def MAr(k:Int)(s:kB)(l:List Tree):Prop:=k≠1/\(k=23->xq s/\l=[])
mutual
def MT:Tree->Prop
 | .mk k s _ l=>MAr k s l/\MTL l
def MTL:List Tree->Prop
 | []=>True
 |t::l=>MT t/\MTL l
end
def Ze3(lv:Nat)(ts:List Tok):xN lv ts=0\/(25<=xN lv ts/\xN lv ts<=31):=by
 unfold xN;split<;>(try split)<;>(try split)<;>omega
def Ze8(ts:List Tok):zg ts=0\/(32<=zg ts/\zg ts<=34):=by
 unfold zg;split<;>(try split)<;>(try split)<;>omega
def Zfc(ts:List Tok):AJ ts=0\/(19<=AJ ts/\AJ ts<=22):=by
 unfold AJ;split<;>(try split)<;>(try split)<;>(try split)<;>omega
def Zp5{text:kB}{j k:Nat}{t:Tok}(p:j<text.size)(h:j4 text j=.ok (t,k)):t.kind=1->xq t.text:=by
 intro h1;unfold j4 at h;simp only at h;split at h
 .rename_i hl;obtain⟨K,o⟩:∃K,Zf wV text (text.size-j) j=K:=⟨_,rfl⟩
  obtain⟨s1,g,m,s4⟩:=Zv wV text (text.size-j) j (Y0 _) Qe;rw[o]at h s1 g m s4;have u:j<K:=by
   exact Zwz
  split at h;·exact ZS
  .rename_i hw;split at h;·cases h
   .simp only[Except.ok.injEq,Prod.mk.injEq]at h;obtain⟨rfl,rfl⟩:=h;have hs:=UJ text (j:=j) g;refine⟨by rw[hs];omega,by rw[hs];omega,?_,λi hi=>?_,by simpa using hw⟩;·rw[Zi text Qe g,Nat.add_zero];exact hl
    .rw[hs]at hi;rw[Zi text hi g];exact m _ Qe Qe
 .exfalso;split at h;·exact AaP
  .split at h;·exact AaP
   .split at h;·cases h
    .exact ZS
inductive Srt|v|vl|ol|pl|b|k|s|sl
mutual
def oi:Tree->Bool
 | .mk k _ _ g=>if k=7/\g.length=2 then true else if k=7\/k=8\/k=9 then ZT g else false
def ZT:List Tree->Bool
 | []=>false
 |x::l=>if l.isEmpty then oi x else ZT l
end
def wv(l:List Tree):kB:=if Tx l then LA else ByteArray.empty
inductive Wf:Srt->List Tree->Prop
 |num {n:Int}:0<=n->n<=1000000000->Wf .v [.mk 17 ByteArray.empty n []]
 |str {s:kB}:s.size<=500->Wf .v [.mk 18 s 0 []]
 |con {k:Int}:19<=k->k<=22->Wf .v [.mk k ByteArray.empty 0 []]
 |name {s:kB}:xq s->Wf .v [.mk 23 s 0 []]
 |set {x y:Tree}:x.kind=23\/x.kind=36->Wf .v [x]->Wf .v [y]->Wf .v [.mk 24 ByteArray.empty 0 [x,y]]
 |two {k:Int} {x y:Tree}:25<=k->k<=31->Wf .v [x]->Wf .v [y]->Wf .v [.mk k ByteArray.empty 0 [x,y]]
 |one {k:Int} {x:Tree}:32<=k->k<=34->Wf .v [x]->Wf .v [.mk k ByteArray.empty 0 [x]]
 |mem {s:kB} {x:Tree}:xq s->Wf .v [x]->Wf .v [.mk 36 s 0 [x]]
 |call {x:Tree} {l:List Tree}:Wf .v [x]->Wf .vl l->Wf .v [.mk 35 ByteArray.empty 0 (x::l)]
 |lam {s:kB} {l:List Tree} {b:Tree}:s=ByteArray.empty\/xq s->Wf .pl l->Wf .b [b]->Wf .v [.mk 37 s 0 [.mk 40 ByteArray.empty 0 l,b]]
 |obj {l:List Tree}:Wf .ol l->Wf .v [.mk 38 ByteArray.empty 0 l]
 |vnil:Wf .vl []
 |vcons {x:Tree} {l:List Tree}:Wf .v [x]->Wf .vl l->Wf .vl (x::l)
 |onil:Wf .ol []
 |ocons {s:kB} {x:Tree} {l:List Tree}:xq s->Wf .v [x]->Wf .ol l->Wf .ol (.mk 39 s 0 [x]::l)
 |pnil:Wf .pl []
 |pcons {s:kB} {l:List Tree}:xq s->Wf .pl l->Wf .pl (.mk 23 s 0 []::l)
 |body {l:List Tree}:Wf .sl l->Wf .b [.mk 6 (wv l) 0 l]
 |block {l:List Tree}:Wf .sl l->Wf .k [.mk 6 ByteArray.empty 0 l]
 |decl0 {k:Int} {s:kB}:k=2\/k=3->xq s->Wf .s [.mk k s 0 []]
 |decl1 {k:Int} {s:kB} {x:Tree}:k=2\/k=3\/k=4->xq s->Wf .v [x]->Wf .s [.mk k s 0 [x]]
 |func {s:kB} {l:List Tree} {b:Tree}:xq s->Wf .pl l->Wf .b [b]->Wf .s [.mk 5 s 0 [.mk 40 ByteArray.empty 0 l,b]]
 |blk {b:Tree}:Wf .k [b]->Wf .s [b]
 |if2 {x y:Tree}:Wf .v [x]->Wf .s [y]->Wf .s [.mk 7 ByteArray.empty 0 [x,y]]
 |if3 {x y z:Tree}:Wf .v [x]->Wf .s [y]->Wf .s [z]->oi y=false->Wf .s [.mk 7 ByteArray.empty 0 [x,y,z]]
 |loop {k:Int} {x y:Tree}:k=8\/k=9->Wf .v [x]->Wf .s [y]->Wf .s [.mk k ByteArray.empty 0 [x,y]]
 |ret0:Wf .s [.mk 10 ByteArray.empty 0 []]
 |ret1 {k:Int} {x:Tree}:k=10\/k=11->Wf .v [x]->Wf .s [.mk k ByteArray.empty 0 [x]]
 |tryc {s:kB} {b c:Tree}:Wf .k [b]->xq s->Wf .k [c]->Wf .s [.mk 12 ByteArray.empty 0 [b,.mk 13 s 0 [c]]]
 |tryf {b c:Tree}:Wf .k [b]->Wf .k [c]->Wf .s [.mk 12 ByteArray.empty 0 [b,.mk 14 ByteArray.empty 0 [c]]]
 |trycf {s:kB} {b c e:Tree}:Wf .k [b]->xq s->Wf .k [c]->Wf .k [e]->Wf .s [.mk 12 ByteArray.empty 0 [b,.mk 13 s 0 [c],.mk 14 ByteArray.empty 0 [e]]]
 |empty:Wf .s [.mk 16 ByteArray.empty 0 []]
 |expr {x:Tree}:Wf .v [x]->Wf .s [.mk 15 ByteArray.empty 0 [x]]
 |snil:Wf .sl []
 |scons {x:Tree} {l:List Tree}:Wf .s [x]->Wf .sl l->Wf .sl (x::l)
def Wf.vapp{l:List Tree}{x:Tree}(h:Wf .vl l)(g:Wf .v [x]):Wf .vl (l++[x]):=by
 induction l with
 |nil=>exact .vcons g .vnil
 |cons y l m=>cases h with|vcons o p=>exact .vcons o (m p)
def Wf.oapp{l:List Tree}{s:kB}{x:Tree}(h:Wf .ol l)(hs:xq s)(g:Wf .v [x]):Wf .ol (l++[.mk 39 s 0 [x]]):=by
 induction l with
 |nil=>exact .ocons hs g .onil
 |cons y l m=>cases h with|ocons o p u=>exact .ocons o p (m u)
def Wf.papp{l:List Tree}{s:kB}(h:Wf .pl l)(hs:xq s):Wf .pl (l++[.mk 23 s 0 []]):=by
 induction l with
 |nil=>exact .pcons hs .pnil
 |cons y l g=>cases h with|pcons m o=>exact .pcons m (g o)
def Wf.sapp{l:List Tree}{x:Tree}(h:Wf .sl l)(g:Wf .s [x]):Wf .sl (l++[x]):=by
 induction l with
 |nil=>exact .scons g .snil
 |cons y l m=>cases h with|scons o p=>exact .scons o (m p)
def GW(ts:List Tok):Prop:=∀t∈ts,(t.kind=1->xq t.text)/\(t.kind=3->0<=t.n/\t.n<=1000000000)/\(t.kind=4->t.text.size<=500)
theorem GW.tail{ts:List Tok}(h:GW ts):GW ts.tail:=λt ht=>h t (List.mem_of_mem_tail ht)
def GW.hd{ts:List Tok}(h:GW ts):((al ts).kind=1->xq (al ts).text)/\((al ts).kind=3->0<=(al ts).n/\(al ts).n<=1000000000)/\((al ts).kind=4->(al ts).text.size<=500):=by
 cases ts with
 |nil=>refine⟨λhk=>?_,λhk=>?_,λhk=>?_⟩<;>simp[al]at hk
 |cons t l=>exact h t Qm
def Wh(P:Tree->List Tok->Prop)(p:PR):Prop:=∀t ts,p=some (.ok (t,ts))->P t ts/\GW ts
section
variable {P Q:Tree->List Tok->Prop}
theorem Wh.fail{e:Int}{ts:List Tok}:Wh P (r' e ts):=by intro t ts' h;cases h
theorem Wh.none:Wh P none:=by intro t ts' h;cases h
theorem Wh.err{e:Int×Nat}:Wh P (some (.error e)):=by intro t ts' h;cases h
def Wh.ok{t:Tree}{ts:List Tok}(h:P t ts)(g:GW ts:=by first|assumption|exact GW.tail Qd|exact GW.tail (GW.tail Qd)):Wh P (fH t ts):=by
 refine Zok ?_;intro t' ts' h';rw[<-h'.1,<-h'.2];exact⟨h,g⟩
def Wh.bind{p:PR}{k:Tree->List Tok->PR}(hp:Wh P p)(hk:∀t ts,P t ts->GW ts->Wh Q (k t ts)):Wh Q (Zn p k):=by
 cases p with
 |none=>exact Wh.none
 |some r=>
   cases r with
   |error e=>exact Wh.err
   |ok x=>obtain⟨t,ts⟩:=x;exact hk t ts (hp t ts rfl).1 (hp t ts rfl).2
def Wh.want{s:kB}{ts:List Tok}{k:List Tok->PR}(hk:GW ts.tail->Wh P (k ts.tail))(g:GW ts:=by first|assumption|exact GW.tail Qd|exact GW.tail (GW.tail Qd)):Wh P (iE s ts k):=by
 unfold iE;by_cases h:ad s ts=true;·rw[Y5 h];exact hk g.tail
 .rw[Y3 h];exact Wh.fail
def Wh.name{ts:List Tok}{k:kB->List Tok->PR}(hk:∀s,xq s->GW ts.tail->Wh P (k s ts.tail))(g:GW ts:=by first|assumption|exact GW.tail Qd|exact GW.tail (GW.tail Qd)):Wh P (tK ts k):=by
 unfold tK;by_cases h:(al ts).kind=1;·rw[Y5 h];exact hk _ (g.hd.1 h) g.tail
 .rw[Y3 h];exact Wh.fail
def Wh.within{d:Nat}{ts:List Tok}{p:PR}(h:Wh P p):Wh P (qH d ts p):=by
 unfold qH;by_cases g:30<d+1;·rw[Y5 g];exact Wh.fail
 .rw[Y3 g];exact h
def Wh.ite{c:Prop} [Decidable c]{p q:PR}(hp:c->Wh P p)(hq:¬c->Wh P q):Wh P (if c then p else q):=by
 exact TB
def Wh.comma{c:Prop} [Decidable c]{ts:List Tok}{k:List Tok->PR}(hk:∀ts',GW ts'->Wh P (k ts'))(g:GW ts:=by first|assumption|exact GW.tail Qd|exact GW.tail (GW.tail Qd)):Wh P ((if c then iE tV ts else λk=>k ts) k):=by
 by_cases h:c;·rw[Y5 h];exact Wh.want (hk _)
 .rw[Y3 h];exact hk _ g
theorem Wh.end'{t:Tree}{ts:List Tok}(h:P t ts.tail)(g:GW ts:=by first|assumption|exact GW.tail Qd|exact GW.tail (GW.tail Qd)):Wh P (po t ts):=Wh.want λ_=>Wh.ok h
theorem Wh.weak{p:PR}(h:Wh P p)(g:∀t ts,P t ts->Q t ts):Wh Q p:=λt ts e=>⟨g t ts (h t ts e).1,(h t ts e).2⟩
end
def StW(t:Tree)(ts:List Tok):Prop:=Wf .s [t]/\(oi t=true->ad Ub ts=false)
def Job.resW:Job->Tree->List Tok->Prop
 | .stmts kind _=>λt _=>∃l,Wf .sl l/\t=.mk kind (wv l) 0 l
 | .block body=>λt _=>if body then Wf .b [t]else Wf .k [t]
 | .func kind _=>λt _=>(kind=5->Wf .s [t]/\oi t=false)/\(kind=37->Wf .v [t])
 | .params _=>λt _=>∃l,Wf .pl l/\t=.mk 40 ByteArray.empty 0 l
 | .stmt=>StW
 | .decl _ _=>λt _=>Wf .s [t]/\oi t=false
 | .try_=>λt _=>Wf .s [t]/\oi t=false
 |_=>λt _=>Wf .v [t]
def Job.goodW:Job->Prop
 | .stmts _ g=>Wf .sl g
 | .func kind s=>(kind=5/\xq s)\/(kind=37/\(s=ByteArray.empty\/xq s))
 | .params g=>Wf .pl g
 | .decl kind m=>(kind=2\/kind=3)\/(kind=4/\m=true)
 | .binLoop _ x=>Wf .v [x]
 | .postLoop x=>Wf .v [x]
 | .args g=>∃x l,g=x::l/\Wf .v [x]/\Wf .vl l
 | .object g=>Wf .ol g
 |_=>True
def Ui{k:Int}{s:kB}{n:Int}{l:List Tree}(h:k≠7/\k≠8/\k≠9):oi (.mk k s n l)=false:=by
 unfold oi;rw[Y3 Qe,Y3 Qe]
def Zez{x y:Tree}:ZT [x,y]=oi y:=by
 rw[ZT.eq_def];simp only;rw[Y3 Qm,ZT.eq_def];simp only;rw[Y5 Qm]
def Ze6{k:Int}{s:kB}{n:Int}{x y:Tree}(h:k=8\/k=9):oi (.mk k s n [x,y])=oi y:=by
 rw[oi.eq_def (.mk k s n [x,y])];simp only;rw[Y3 Qe,Y5 Qe,Zez]
def Zpa{s:kB}{n:Int}{x y z:Tree}:oi (.mk 7 s n [x,y,z])=oi z:=by
 rw[oi.eq_def (.mk 7 s n [x,y,z])];show(if(7:Int)=7/\[x,y,z].length=2 then true else if(7:Int)=7\/(7:Int)=8\/(7:Int)=9 then ZT [x,y,z]else false)=oi z;rw[Y3 Qm,Y5 (.inl rfl),ZT.eq_def];simp only;rw[Y3 Qm,Zez]
def Zpg:∀(f:Nat) (F:Job) (d:Nat) (ts:List Tok),F.goodW->GW ts->Wh F.resW (Z0 f F d ts):=by
 intro f;induction f with
 |zero=>intro F d ts _ _;unfold Z0;exact Wh.none
 |succ f jK=>
   intro F d ts o Y;have m:∀(F:Job) (d:Nat) (ts:List Tok),F.goodW->∀(g:GW ts:=by first|assumption|exact GW.tail Qd|exact GW.tail (GW.tail Qd)),Wh F.resW (Z0 f F d ts):=λF d ts h g=>jK F d ts h g;have kk:∀{t:Tree},Wf .k [t]->Wf .s [t]/\oi t=false:=λh=>⟨.blk h,by cases h;exact Ui Qe⟩;cases F with
   |stmts kind I=>
     unfold Z0;refine Wh.ite (λ_=>Wh.ok ⟨I,o,rfl⟩) λ_=>?_;exact Wh.bind (Wh.within (m .stmt _ _ trivial)) λt ts' h _=>(m (.stmts kind (I++[t])) _ _ (Wf.sapp o h.1))
   |block body=>
     unfold Z0;refine Wh.want (λ_=>Wh.bind (m (.stmts 6 []) _ _ .snil) λt ts' U _=>Wh.want (λ_=>Wh.ok ?_));obtain⟨l,J,rfl⟩:=U;cases body with
     |true=>exact .body J
     |false=>exact .block J
   |func kind text=>
     unfold Z0;refine Wh.want (λ_=>Wh.bind (m (.params []) _ _ .pnil) λt ts' U _=>Wh.want (λ_=>Wh.bind (m (.block true) _ _ trivial) λt ts' u _=>Wh.ok ?_));obtain⟨l,J,rfl⟩:=U;refine⟨λhk=>?_,λhk=>?_⟩
     .subst hk;rcases o with⟨_,o⟩|⟨o,_⟩;·exact⟨.func o J u,Ui Qe⟩
      .cases o
     .subst hk;rcases o with⟨o,_⟩|⟨_,o⟩;·cases o
      .exact .lam o J u
   |params I=>
     unfold Z0;refine Wh.ite (λ_=>Wh.ok ⟨I,o,rfl⟩) λ_=>?_;exact Wh.comma λts' _=>Wh.ite (λ_=>Wh.fail) λ_=>Wh.name λs hs _=>m (.params (I++[Tree.mk 23 s 0 []])) _ _ (Wf.papp o hs)
   |around=>
     unfold Z0;exact Wh.want (λ_=>Wh.bind (m .value _ _ trivial) λt ts' U _=>Wh.want (λ_=>Wh.ok U))
   |stmt=>
     unfold Z0;show Wh StW _;have nd:∀{t:Tree} {ts:List Tok},Wf .s [t]/\oi t=false->StW t ts:=λh=>⟨h.1,λe=>by rw[h.2]at e;cases e⟩;refine Wh.ite (λh=>(m (.block false) _ _ trivial).weak λ_ _ h=>nd (kk h)) λ_=>?_;refine Wh.ite (λh=>Wh.ok (nd ⟨.empty,Ui Qe⟩)) λ_=>?_;refine Wh.ite (λh=>Wh.bind (m (.decl 2 false) _ _ (.inl (.inl rfl))) λt us p _=>Wh.end' (nd p)) λ_=>?_;refine Wh.ite (λh=>Wh.bind (m (.decl 3 false) _ _ (.inl (.inr rfl))) λt us p _=>Wh.end' (nd p)) λ_=>?_
     refine Wh.ite (λh=>Wh.bind (m (.decl 4 true) _ _ (.inr ⟨rfl,rfl⟩)) λt us p _=>Wh.end' (nd p)) λ_=>?_;refine Wh.ite (λh=>Wh.name λs hs _=>(m (.func 5 s) _ _ (.inl ⟨rfl,hs⟩)).weak λ_ _ h=>nd (h.1 rfl)) λ_=>?_;refine Wh.ite (λh=>Wh.bind (m .around _ _ trivial) λx us p _=>Wh.bind (Wh.within (m .stmt _ _ trivial)) λy vs u _=>Wh.ite (λX=>Wh.bind (Wh.within (m .stmt _ _ trivial)) λz Z h5 _=>Wh.ok ?_) λX=>Wh.ok ?_) λ_=>?_
     .refine⟨.if3 p u.1 h5.1 ?_,by rw[Zpa];exact h5.2⟩;cases hd:oi y with
      |false=>rfl
      |true=>rw[u.2 hd]at X;cases X
     .exact⟨.if2 p u.1,λ_=>by simpa using X⟩
     refine Wh.ite (λh=>Wh.bind (m .around _ _ trivial) λt us p _=>Wh.bind (Wh.within (m .stmt _ _ trivial)) λt vs u _=>Wh.ok ⟨.loop (.inl rfl) p u.1,by rw[Ze6 (.inl rfl)];exact u.2⟩) λ_=>?_;refine Wh.ite (λh=>Wh.bind (m .around _ _ trivial) λt us p _=>Wh.bind (Wh.within (m .stmt _ _ trivial)) λt vs u _=>Wh.ok ⟨.loop (.inr rfl) p u.1,by rw[Ze6 (.inr rfl)];exact u.2⟩) λ_=>?_
     refine Wh.ite (λh=>Wh.ite (λJ=>Wh.end' (nd ⟨.ret0,Ui Qe⟩)) (λ_=>Wh.bind (m .value _ _ trivial) λt us p _=>Wh.end' (nd ⟨.ret1 (.inl rfl) p,Ui Qe⟩))) λ_=>?_;refine Wh.ite (λh=>Wh.bind (m .value _ _ trivial) λt us p _=>Wh.end' (nd ⟨.ret1 (.inr rfl) p,Ui Qe⟩)) λ_=>?_;refine Wh.ite (λh=>(m .try_ _ _ trivial).weak λ_ _ h=>nd h) λ_=>?_;exact Wh.bind (m .value _ _ trivial) λt us p _=>Wh.end' (nd ⟨.expr p,Ui Qe⟩)
   |decl kind fg=>
     have hk:(kind=2\/kind=3)\/(kind=4/\fg=true):=o;unfold Z0;refine Wh.name λs hs _=>Wh.ite (λ_=>Wh.fail) λhm=>Wh.ite (λp=>Wh.bind (m .value _ _ trivial) λt us u _=>Wh.ok ?_) λhn=>Wh.ok ?_;·exact⟨.decl1 Qe hs u,Ui Qe⟩
     .refine⟨.decl0 ?_ hs,Ui Qe⟩;rcases hk with h|⟨h,Ml⟩;·exact h
      .subst Ml;simp[hn]at hm
   |try_=>
     unfold Z0;refine Wh.bind (m (.block false) _ _ trivial) λb us h _=>?_;replace h:Wf .k [b]:=h
     refine Wh.ite (λJ=>?_) λ_=>?_
     .refine Wh.want (λ_=>Wh.name λs hs _=>Wh.want (λ_=>Wh.bind (m (.block false) _ _ trivial) λc vs h5 _=>?_));exact Wh.ite (λ_=>Wh.bind (m (.block false) _ _ trivial) λt Z u _=>Wh.ok ⟨.trycf h hs h5 u,Ui Qe⟩) λ_=>Wh.ite (λ_=>Wh.fail) λ_=>Wh.ok ⟨.tryc h hs h5,Ui Qe⟩
     .exact Wh.ite (λ_=>Wh.bind (m (.block false) _ _ trivial) λt Z u _=>Wh.ok ⟨.tryf h u,Ui Qe⟩) λ_=>Wh.ite (λ_=>Wh.fail) λh=>absurd rfl h
   |value=>unfold Z0;exact Wh.within (m .assign _ _ trivial)
   |assign=>
     unfold Z0;exact Wh.bind (m (.bin 0) _ _ trivial) λx us h _=>Wh.ite (λJ=>Wh.ite (λhk=>Wh.bind (m .value _ _ trivial) λy vs p _=>Wh.ok (.set hk h p)) λ_=>Wh.err) λ_=>Wh.ok h
   |bin O=>
     unfold Z0;exact Wh.ite (λ_=>m .unary _ _ trivial) λ_=>Wh.bind (m (.bin (O+1)) _ _ trivial) λx us h _=>m (.binLoop O x) _ _ h
   |binLoop O x=>
     unfold Z0;exact Wh.ite (λ_=>Wh.ok o) λh0=>Wh.bind (m (.bin (O+1)) _ _ trivial) λy us h _=>m (.binLoop O (.mk (xN O ts) ByteArray.empty 0 [x,y])) _ _ (.two (by have:=Ze3 O ts;omega) (by have:=Ze3 O ts;omega) o h)
   |unary=>
     unfold Z0;exact Wh.ite (λ_=>m .postfix_ _ _ trivial) λh0=>Wh.bind (Wh.within (m .unary _ _ trivial)) λx us h _=>Wh.ok (.one (by have:=Ze8 ts;omega) (by have:=Ze8 ts;omega) h)
   |postfix_=>
     unfold Z0;exact Wh.bind (m .primary _ _ trivial) λx us h _=>m (.postLoop x) _ _ h
   |postLoop x=>
     unfold Z0;exact Wh.ite (λ_=>Wh.name λs hs _=>m (.postLoop (.mk 36 s 0 [x])) _ _ (.mem hs o)) λ_=>Wh.ite (λ_=>Wh.bind (m (.args [x]) _ _ ⟨x,[],rfl,o,.vnil⟩) λn us h _=>m (.postLoop n) _ _ h) λ_=>Wh.ok o
   |args I=>
     unfold Z0;obtain⟨x,l,rfl,hx,hl⟩:=o;refine Wh.ite (λ_=>Wh.ok (.call hx hl)) λ_=>?_;exact Wh.comma λts' _=>Wh.ite (λ_=>Wh.fail) λ_=>Wh.bind (m .value _ _ trivial) λv us h _=>m (.args (x::l++[v])) _ _ ⟨x,l++[v],rfl,hx,Wf.vapp hl h⟩
   |primary=>
     unfold Z0;obtain⟨g1,g2,g3⟩:=Y.hd;refine Wh.ite (λh=>Wh.ok (.name (g1 h))) λ_=>?_;refine Wh.ite (λh=>Wh.ok (.num (g2 h).1 (g2 h).2)) λ_=>?_;refine Wh.ite (λh=>Wh.ok (.str (g3 h))) λ_=>?_;refine Wh.ite (λh=>Wh.ok (.con (by have:=Zfc ts;omega) (by have:=Zfc ts;omega))) λ_=>?_;refine Wh.ite (λh=>m .around _ _ trivial) λ_=>?_
     refine Wh.ite (λh=>Wh.ite (λhk=>(m (.func 37 (al ts.tail).text) _ _ (.inr ⟨rfl,.inr (Y.tail.hd.1 hk)⟩)).weak λ_ _ h=>h.2 rfl) λ_=>(m (.func 37 ByteArray.empty) _ _ (.inr ⟨rfl,.inl rfl⟩)).weak λ_ _ h=>h.2 rfl) λ_=>?_;exact Wh.ite (λh=>m (.object []) _ _ .onil) λ_=>Wh.fail
   |object I=>
     unfold Z0;refine Wh.ite (λ_=>Wh.ok (.obj o)) λ_=>?_;exact Wh.comma λts' _=>Wh.ite (λ_=>Wh.fail) λ_=>Wh.name λs hs _=>Wh.want (λ_=>Wh.bind (m .value _ _ trivial) λv us h _=>m (.object (I++[Tree.mk 39 s 0 [v]])) _ _ (Wf.oapp o hs h))
def Zu7{text:kB}{k:Nat}:∀(f i:Nat) (n:Int),(∀m,i<=m->m<k->mI (Z5 text m)=true)->0<=n->0<=kY text k f i n:=by
 intro f;induction f with
 |zero=>intro i n _ h;exact h
 |succ f g=>
   intro i n hd h;simp only[kY];by_cases hi:i<k
   .rw[Y5 hi];have:=hd i (Y0 _) hi;simp only[mI,Bool.and_eq_true,decide_eq_true_eq]at this;exact g _ _ (λm p o=>hd m Qe o) Qe
   .rw[Y3 hi];exact h
def Zgs{text:kB}:∀(f i:Nat) (m o:List UInt8) (k:Nat),Zy text f i m=(o,0,k)->o.length<=500:=by
 intro f;induction f with
 |zero=>intro i m o k h;simp[Zy]at h
 |succ f p=>
   intro i m o k h;simp only[Zy]at h;by_cases u:text.size<=i\/Z5 text i=10;·rw[Y5 u]at h;simp at h
   rw[Y3 u]at h;by_cases y:Z5 text i=39
   .rw[Y5 y]at h;by_cases g:500<m.length;·rw[Y5 g]at h;simp at h
    rw[Y3 g]at h;simp only[Prod.mk.injEq,true_and]at h;obtain⟨rfl,_⟩:=h;omega
   rw[Y3 y]at h;by_cases g:Z5 text i=92
   .rw[Y5 g]at h;by_cases F:i+1<text.size
    .rw[Y5 F]at h;cases he:Va (Z5 text (i+1))with
     |none=>rw[he]at h;simp at h
     |some e=>rw[he]at h;exact p _ _ _ _ h
    .rw[Y3 F]at h;simp at h
   .rw[Y3 g]at h;exact p _ _ _ _ h
def Zqp{text:kB}{j k:Nat}{t:Tok}(o:j<text.size)(h:j4 text j=.ok (t,k)):(t.kind=1->xq t.text)/\(t.kind=3->0<=t.n/\t.n<=1000000000)/\(t.kind=4->t.text.size<=500):=by
 refine⟨Zp5 o h,λhk=>?_,λhk=>?_⟩
 .unfold j4 at h;simp only at h;split at h
  .split at h;·exact Tc
   .split at h;·cases h
    .exact Tc
  .split at h
   .split at h;·cases h
    .split at h;·cases h
     .simp only[Except.ok.injEq,Prod.mk.injEq]at h;obtain⟨rfl,_⟩:=h;obtain⟨s1,u,p,y⟩:=Zv mI text (text.size-j) j (Y0 _) Qe;exact⟨Zu7 _ _ _ p Qe,by simp only;omega⟩
   .split at h;·exact Ab4
    .split at h;·cases h
     .exact Tc
 .unfold j4 at h;simp only at h;split at h
  .split at h;·exact Tc
   .split at h;·cases h
    .exact Tc
  .split at h;·exact Ab4
   .split at h
    .obtain⟨⟨F,e,K⟩,g⟩:∃R,R=CP text (j+1):=⟨_,rfl⟩
     rw[<-g]at h;simp only at h;split at h;·cases h
     .split at h;·cases h
      .rename_i m;simp only[ne_eq,Decidable.not_not]at m;subst m;simp only[Except.ok.injEq,Prod.mk.injEq]at h;obtain⟨rfl,_⟩:=h;have:=Zgs _ _ _ _ _ g.symm;exact this
    .split at h;·cases h
     .exact Tc
def Zo2{text:kB}:∀(r:List Tok) (i:Nat),i<=text.size->S3 text i r->GW r:=by
 intro r;induction r with
 |nil=>intro i _ h;exact h.elim
 |cons t r o=>
   intro i hi h;cases r with
   |nil=>
     obtain⟨m,g⟩:=h;intro x hx;simp only[List.mem_singleton]at hx;subst hx;rw[g];refine⟨λh=>?_,λh=>?_,λh=>?_⟩<;>simp at h
   |cons u r=>
     obtain⟨k,m,g,p⟩:=h;obtain⟨c1,c2,_⟩:=Xe text m g;intro x hx;rcases List.mem_cons.1 hx with rfl|hx;·exact Zqp m g
     .exact o k c2 p x hx
def Z5q{text:kB}{t:Tree}(h:Zm text=.ok t):∃l,Wf .sl l/\t=.mk 1 (wv l) 0 l/\t.many<=1500:=by
 unfold Zm at h;split at h;·cases h
 .split at h;·cases h
  .rename_i ts _;split at h;·cases h
   .cases h
   .rename_i t' ts' hp;split at h;·cases h
    .have e:t'=t:=by simpa using h
     subst e;obtain⟨⟨l,g,m⟩,_⟩:=Zpg _ _ _ _ (show Job.goodW (.stmts 1 [])from .snil) (Zo2 _ _ (Yh _) (Z66 Qd)) _ _ hp;exact⟨l,g,m,by omega⟩
def LVal.ok(k:Nat)(v:LVal):Prop:=
 0<=v.kind/\v.kind<=5/\v.s.size<=500/\(v.kind≠5->-1000000000<=v.n/\v.n<=1000000000)/\(v.kind=5->0<=v.n/\v.n<k)
theorem LVal.ok.mono{k m:Nat}{v:LVal}(h:v.ok k)(hk:k<=m):v.ok m:=⟨h.1,h.2.1,h.2.2.1,h.2.2.2.1,λe=>⟨(h.2.2.2.2 e).1,by have:=(h.2.2.2.2 e).2;omega⟩⟩
theorem sP(k:Nat):LVal.zero.ok k:=⟨by decide,by decide,by decide,λ_=>by decide,λh=>by cases h⟩
theorem Zei{k:Nat}{t:kB}(h:t.size<=500):(LVal.say t).ok k:=by refine⟨?_,?_,h,λ_=>?_,λh=>?_⟩<;>simp only[LVal.say]at * <;>omega
theorem Vw{k:Nat}(b:Bool):(LVal.is b).ok k:=by cases b<;>exact⟨by decide,by decide,by decide,λ_=>by decide,λh=>by cases h⟩
theorem Zu6{k:Nat}:(⟨1,0,⟨#[]⟩⟩:LVal).ok k:=⟨by decide,by decide,by decide,λ_=>by decide,λh=>by cases h⟩
theorem Zhu{k:Nat}{n:Int}(g:-1000000000<=n)(m:n<=1000000000):(LVal.num n).ok k:=⟨by show(0:Int)<=3;decide,by show(3:Int)<=5;decide,by show(0:Nat)<=500;decide,λ_=>⟨g,m⟩,λh=>by cases h⟩
theorem Ti{k:Nat}{n:Int}(g:0<=n)(m:n<k):(LVal.ref n).ok k:=⟨by show(0:Int)<=5;decide,by show(5:Int)<=5;decide,by show(0:Nat)<=500;decide,λh=>absurd rfl h,λ_=>⟨g,m⟩⟩
structure Near(H H':LHeap):Prop where
 lo:H'.objects.length=H.objects.length
 ls:H'.scopes.length=H.scopes.length
 obj:∀(i:Nat) (o':LObj),H'.objects[i]?=some o'->∃o:LObj,H.objects[i]?=some o/\o'.code=o.code/\o'.props.length<=o.props.length+1/\∀p∈o'.props,p.v.ok H.objects.length\/∃q∈o.props,q.v=p.v
 scp:∀(i:Nat) (o':LScope),H'.scopes[i]?=some o'->∃o:LScope,H.scopes[i]?=some o/\o'.outer=o.outer/\o'.object=o.object/\o'.names.length<=o.names.length+1/\
  ∀p∈o'.names,(p.v.ok H.objects.length\/∃q∈o.names,q.v=p.v)/\((0<=p.kind/\p.kind<=4)\/∃q∈o.names,q.kind=p.kind)
def Near.refl(H:LHeap):Near H H:=
 ⟨rfl,rfl,λi o h=>⟨o,h,rfl,by omega,λp hp=>.inr ⟨p,hp,rfl⟩⟩,λi o h=>⟨o,h,rfl,rfl,by omega,λp hp=>⟨.inr ⟨p,hp,rfl⟩,.inr ⟨p,hp,rfl⟩⟩⟩⟩
def Near.object{H:LHeap}{m:Nat}{o o':LObj}(g:H.objects[m]?=some o)(hc:o'.code=o.code)(hl:o'.props.length<=o.props.length+1)(hp:∀p∈o'.props,p.v.ok H.objects.length\/∃q∈o.props,q.v=p.v) :
 Near H {H with objects:=H.objects.set m o'}:=by
 refine⟨by simp,rfl,λi x h=>?_,(Near.refl H).scp⟩;simp only[List.getElem?_set]at h;split at h
 .split at h
  .rename_i u y;simp only[Option.some.injEq]at h;subst u;subst h;exact⟨o,g,hc,hl,hp⟩
  .cases h
 .exact(Near.refl H).obj i x h
def Near.scope{H:LHeap}{m:Nat}{o:LScope}{l:List LBind}(g:H.scopes[m]?=some o)(hl:l.length<=o.names.length+1)
 (hp:∀p∈l,(p.v.ok H.objects.length\/∃q∈o.names,q.v=p.v)/\((0<=p.kind/\p.kind<=4)\/∃q∈o.names,q.kind=p.kind)):Near H (H.setNames m o l):=by
 refine⟨rfl,by simp[LHeap.setNames],(Near.refl H).obj,λi x h=>?_⟩;simp only[LHeap.setNames,List.getElem?_set]at h;split at h
 .split at h
  .rename_i u y;simp only[Option.some.injEq]at h;subst u;subst h;exact⟨o,g,rfl,rfl,hl,hp⟩
  .cases h
 .exact(Near.refl H).scp i x h
def mem_modify{α:Type}{f:α->α}{l:List α}{k:Nat}{x:α}(h:x∈l.modify k f):x∈l\/∃y∈l,x=f y:=by
 induction l generalizing k with
 |nil=>simp at h
 |cons a l g=>
   cases k with
   |zero=>
     simp only[List.modify_zero_cons,List.mem_cons]at h;rcases h with rfl|h;·exact .inr ⟨a,by simp,rfl⟩
     .exact .inl (by simp[h])
   |succ k=>
     simp only[List.modify_succ_cons,List.mem_cons]at h;rcases h with rfl|h;·exact .inl Qm
     .rcases g h with h|⟨y,m,o⟩;·exact .inl (by simp[h])
      .exact .inr ⟨y,by simp[m],o⟩
def ZU{H:LHeap}{n:Int}{name:kB}{v:LVal}{fixed:Bool}(g:v.ok H.objects.length):Near H (H.put n name v fixed).1:=by
 unfold LHeap.put;rcases hob:H.object? n with _|o;·exact Near.refl H
 obtain⟨m,rfl,u⟩:=LHeap.object?_some hob;simp only;split
 .rename_i k hk;refine Near.object (m:=m) u rfl Qm λp hp=>?_;rcases mem_modify hp with h|⟨y,F,rfl⟩;·exact .inr ⟨p,h,rfl⟩
  .exact .inl g
 .refine Near.object (m:=m) u rfl Qm λp hp=>?_;rcases List.mem_append.1 hp with h|h;·exact .inr ⟨p,h,rfl⟩
  .simp only[List.mem_singleton]at h;subst h;exact .inl g
def Zi1{H:LHeap}{n:Int}{name:kB}:Near H (H.cut n name).1:=by
 unfold LHeap.cut;rcases hob:H.object? n with _|o;·exact Near.refl H
 obtain⟨m,rfl,g⟩:=LHeap.object?_some hob;simp only;split;·exact Near.refl H
 .split;·exact Near.refl H
  .split;·exact Near.refl H
   .refine Near.object (m:=m) g rfl ?_ λp hp=>.inr ⟨p,List.mem_of_mem_eraseIdx hp,rfl⟩;have:=List.length_eraseIdx_le o.props ‹Nat›;show(o.props.eraseIdx _).length<=_;omega
def Z6c{H:LHeap}{n:Int}{name:kB}{v:LVal}{kind:Int}(g:v.ok H.objects.length)(hk:0<=kind)(u:kind<=4):Near H (H.declare n name kind v).1:=by
 unfold LHeap.declare;rcases hob:H.scope? n with _|o;·exact Near.refl H
 obtain⟨m,rfl,y⟩:=LHeap.scope?_some hob;simp only;split;·exact Near.refl H
 .split;·exact Near.refl H
  .refine Near.scope (m:=m) (l:=o.names++[⟨name,v,kind,_⟩]) y Qm λp hp=>?_;rcases List.mem_append.1 hp with h|h;·exact⟨.inr ⟨p,h,rfl⟩,.inr ⟨p,h,rfl⟩⟩
   .simp only[List.mem_singleton]at h;subst h;exact⟨.inl g,.inl ⟨hk,u⟩⟩
def Zij{H:LHeap}{n:Int}{name:kB}{v:LVal}(hv:v.ok H.objects.length):Near H (H.write n name v).1:=by
 unfold LHeap.write;rcases hob:H.scope? n with _|o;·exact Near.refl H
 obtain⟨m,rfl,hm⟩:=LHeap.scope?_some hob;simp only;split
 .split;·exact Near.refl H
  .rename_i k hk;split;·exact Near.refl H
   .rename_i b hb;split;·exact Near.refl H
    .split;·exact Near.refl H
     .split;·exact Near.refl H
      .exact Acf
 .split;·exact ZU hv
  .exact Near.refl H
def Zj5{H:LHeap}{n:Int}{name:kB}{v:LVal}(hv:v.ok H.objects.length):Near H (H.start n name v).1:=by
 unfold LHeap.start;rcases hob:H.scope? n with _|o;·exact Near.refl H
 obtain⟨m,rfl,hm⟩:=LHeap.scope?_some hob;simp only;split;·exact Near.refl H
 .split;·exact Near.refl H
  .split;·exact Near.refl H
   .rename_i b hb;exact Acf
def Zne{H:LHeap}{n:Int}{name:kB}:Near H (H.drop n name).1:=by
 unfold LHeap.drop;rcases hob:H.scope? n with _|o;·exact Near.refl H
 obtain⟨m,rfl,g⟩:=LHeap.scope?_some hob;simp only;split
 .split;·exact Near.refl H
  .split;·exact Near.refl H
   .split
    .refine Near.scope (m:=m) g ?_ λp hp=>?_
     .have:=List.length_filter_le (λb=>!LBind.is name b) o.names;unfold unnamed;omega
     .have h:p∈o.names:=(List.mem_filter.1 hp).1;exact⟨.inr ⟨p,h,rfl⟩,.inr ⟨p,h,rfl⟩⟩
    .exact Near.refl H
 .split;·exact Zi1
  .exact Near.refl H
def NT.wf(c:Srt)(x:NT):Prop:=Wf c [x.tree]
def Lp(x:NT):Prop:=(x.kind=5/\x.wf .s\/x.kind=37/\x.wf .v)/\x.tree.many<=1500
structure Inv(s:MSt)(d:Nat):Prop where
 wf:s.H.WF
 own:s.owners.length=s.H.scopes.length
 obj:∀o∈s.H.objects,0<=o.code/\o.code<3+s.clos.length/\(∀p∈o.props,p.v.ok s.H.objects.length)/\o.props.length+d<=20000*(s.steps.toNat+1)
 scp:∀c∈s.H.scopes,-1<=c.object/\c.object<s.H.objects.length/\(∀x∈c.names,x.v.ok s.H.objects.length/\0<=x.kind/\x.kind<=4)/\c.names.length+d<=20000*(s.steps.toNat+1)
 clo:∀c∈s.clos,Lp c.node/\0<=c.scope/\c.scope<s.H.scopes.length
 last:s.last.ok s.H.objects.length
 calls:0<=s.calls/\s.calls<=40
 steps:0<=s.steps/\s.steps<=20001
 szO:s.H.objects.length+d<=20000*(s.steps.toNat+1)
 szS:s.H.scopes.length+d<=20000*(s.steps.toNat+1)
 szC:s.clos.length+d<=20000*(s.steps.toNat+1)
 szL:s.log.length+d<=20000*(s.steps.toNat+1)
 szN:s.seen.length+d<=20000*(s.steps.toNat+1)
structure Ext(s t:MSt):Prop where
 lo:s.H.objects.length<=t.H.objects.length
 scp:∀(i:Nat) (c:LScope),s.H.scopes[i]?=some c->∃c':LScope,t.H.scopes[i]?=some c'/\c'.outer=c.outer/\c'.object=c.object
 ls:s.H.scopes.length<=t.H.scopes.length
 own:∃l,t.owners=s.owners++l
 clo:∃l,t.clos=s.clos++l
 glob:t.glob=s.glob
 outer:t.outer=s.outer
 top:t.top=s.top
 steps:s.steps<=t.steps
 log:∃l,t.log=s.log++l
 seen:∃l,t.seen=s.seen++l
theorem Ext.refl(s:MSt):Ext s s:=⟨Y0 _,λi c h=>⟨c,h,rfl,rfl⟩,Y0 _,⟨[],by simp⟩,⟨[],by simp⟩,rfl,rfl,rfl,Int.le_refl _,⟨[],by simp⟩,⟨[],by simp⟩⟩
theorem Ext.trans{s t u:MSt}(a:Ext s t)(b:Ext t u):Ext s u:=by
 obtain⟨g,m⟩:=a.own;obtain⟨o,p⟩:=b.own;obtain⟨y,F⟩:=a.clo;obtain⟨G,I⟩:=b.clo;obtain⟨J,h5⟩:=a.log;obtain⟨O,U⟩:=b.log;obtain⟨X,Y⟩:=a.seen;obtain⟨Z,h8⟩:=b.seen;refine⟨Y4 a.lo b.lo,λi c h=>?_,Y4 a.ls b.ls,⟨g++o,by rw[p,m,List.append_assoc]⟩,⟨y++G,by rw[I,F,List.append_assoc]⟩,b.glob.trans a.glob,b.outer.trans a.outer,b.top.trans a.top,Int.le_trans a.steps b.steps,⟨J++O,by rw[U,h5,List.append_assoc]⟩,⟨X++Z,by rw[h8,Y,List.append_assoc]⟩⟩;obtain⟨c1,g1,g2,g3⟩:=a.scp i c h
 obtain⟨c2,k1,k2,k3⟩:=b.scp i c1 g1;exact⟨c2,k1,k2.trans g2,k3.trans g3⟩
section
variable {s:MSt}{d:Nat}
def Inv.less{d':Nat}(h:Inv s d)(hd:d'<=d):Inv s d' where
 wf:=h.wf
 own:=h.own
 obj:=λo ho=>by have:=h.obj o ho;exact⟨this.1,this.2.1,this.2.2.1,by omega⟩
 scp:=λo ho=>by have:=h.scp o ho;exact⟨this.1,this.2.1,this.2.2.1,by omega⟩
 clo:=h.clo
 last:=h.last
 calls:=h.calls
 steps:=h.steps
 szO:=by have:=h.szO;omega
 szS:=by have:=h.szS;omega
 szC:=by have:=h.szC;omega
 szL:=by have:=h.szL;omega
 szN:=by have:=h.szN;omega
def Zss{H g:LHeap}(h:H.WF)(n:Near H g):g.WF:=by
 intro i o' hi;obtain⟨o,m,p,u,_⟩:=n.scp i o' hi;rw[p];exact h i o m
def Inv.near{m:LHeap}(h:Inv s (d+1))(n:Near s.H m):Inv (s.setH m) d/\Ext s (s.setH m):=by
 refine⟨⟨Zss h.wf n,by rw[show(s.setH m).H=m from rfl,n.ls];exact h.own,λo' ho=>?_,λo' ho=>?_,?_,?_,h.calls,h.steps,?_,?_,?_,?_,?_⟩,⟨?_,λi c hc=>?_,?_,⟨[],(List.append_nil _).symm⟩,⟨[],(List.append_nil _).symm⟩,rfl,rfl,rfl,Int.le_refl _,⟨[],(List.append_nil _).symm⟩,⟨[],(List.append_nil _).symm⟩⟩⟩
 .obtain⟨i,hi⟩:=List.getElem?_of_mem ho;obtain⟨o,u,F,I,U⟩:=n.obj i o' hi;have g:=h.obj o (Yd u);refine⟨by rw[F];exact g.1,by rw[F];exact g.2.1,λp hp=>?_,by show o'.props.length+d<=20000*(s.steps.toNat+1);omega⟩;rw[show(s.setH m).H=m from rfl,n.lo];rcases U p hp with h5|⟨q,h5,y⟩;·exact h5
  .rw[<-y];exact g.2.2.1 q h5
 .obtain⟨i,hi⟩:=List.getElem?_of_mem ho;obtain⟨o,u,F,I,U,h5⟩:=n.scp i o' hi;have g:=h.scp o (Yd u);have e:(s.setH m).H.objects.length=s.H.objects.length:=n.lo;refine⟨by rw[I];exact g.1,by rw[I,e];exact g.2.1,λp hp=>?_,by show o'.names.length+d<=20000*(s.steps.toNat+1);omega⟩;rw[e];obtain⟨y,J⟩:=h5 p hp;refine⟨?_,?_⟩
  .rcases y with y|⟨q,y,O⟩;·exact y
   .rw[<-O];exact(g.2.2.1 q y).1
  .rcases J with J|⟨q,J,O⟩;·exact J
   .rw[<-O];exact(g.2.2.1 q J).2
 .intro c hc;have g:=h.clo c hc;exact⟨g.1,g.2.1,by rw[show(s.setH m).H=m from rfl,n.ls];exact g.2.2⟩
 .rw[show(s.setH m).H=m from rfl,n.lo];exact h.last
 .rw[show(s.setH m).H=m from rfl,n.lo];have:=h.szO;show _<=20000*(s.steps.toNat+1);omega
 .rw[show(s.setH m).H=m from rfl,n.ls];have:=h.szS;show _<=20000*(s.steps.toNat+1);omega
 .exact Ztp
 .exact Zrt
 .exact Zts
 .exact Nat.le_of_eq n.lo.symm
 .have hl:i<m.scopes.length:=by rw[n.ls];exact getElem?_lt hc
  obtain⟨o,u,F,I,_⟩:=n.scp i _ (Y6 hl);rw[hc]at u;simp only[Option.some.injEq]at u;subst u;exact⟨_,Y6 hl,F,I⟩
 .exact Nat.le_of_eq n.ls.symm
theorem Inv.opens{outer object owner:Int}(h:Inv s (d+1))(ho:-1<=outer)(G:outer<s.H.scopes.length)(hb:-1<=object)(y:object<s.H.objects.length):Inv (s.opens outer object owner) d/\Ext s (s.opens outer object owner):=by
 have m:(s.opens outer object owner).steps=s.steps:=rfl;have p:(s.opens outer object owner).H.scopes=s.H.scopes++[⟨outer,object,[]⟩]:=rfl;have hob:(s.opens outer object owner).H.objects=s.H.objects:=rfl;refine⟨⟨λi c hi=>?_,?_,λo ho=>?_,λc hc=>?_,λc hc=>?_,h.last,h.calls,h.steps,?_,?_,?_,?_,?_⟩,⟨Y0 _,λi c hc=>⟨c,?_,rfl,rfl⟩,?_,⟨[owner],rfl⟩,⟨[],(List.append_nil _).symm⟩,rfl,rfl,rfl,Int.le_refl _,⟨[],(List.append_nil _).symm⟩,⟨[],(List.append_nil _).symm⟩⟩⟩
 .rw[p,List.getElem?_append]at hi;split at hi;·exact h.wf i c hi
  .rename_i I;have u:=getElem?_lt hi;simp at u;have F:i-s.H.scopes.length=0:=by omega
   rw[F]at hi;simp only[List.getElem?_cons_zero,Option.some.injEq]at hi;subst hi;exact⟨ho,by show outer<i;omega⟩
 .rw[p];show(s.owners++[owner]).length=_;simp[h.own]
 .have g:=h.obj o ho;exact⟨g.1,g.2.1,g.2.2.1,by rw[m];omega⟩
 .rw[p]at hc;rcases List.mem_append.1 hc with u|u
  .have g:=h.scp c u;exact⟨g.1,g.2.1,g.2.2.1,by rw[m];omega⟩
  .simp only[List.mem_singleton]at u;subst u;exact⟨hb,y,(λx hx=>by cases hx),by rw[m];have:=h.szS;simp;omega⟩
 .have g:=h.clo c hc;exact⟨g.1,g.2.1,by rw[p];simp;have:=g.2.2;omega⟩
 .have:=h.szO;rw[m,hob];omega
 .have:=h.szS;rw[m,p];simp;omega
 .have:=h.szC;rw[m];show s.clos.length+d<=_;omega
 .have:=h.szL;rw[m];show s.log.length+d<=_;omega
 .have:=h.szN;rw[m];show s.seen.length+d<=_;omega
 .rw[p,List.getElem?_append_left (getElem?_lt hc)];exact hc
 .rw[p];simp
theorem Inv.object{code:Int}(h:Inv s (d+1))(hc:0<=code)(y:code<3+s.clos.length):Inv (s.object code) d/\Ext s (s.object code):=by
 have m:(s.object code).steps=s.steps:=rfl;have hob:(s.object code).H.objects=s.H.objects++[⟨[],code⟩]:=rfl;have F:(s.object code).H.scopes=s.H.scopes:=rfl;have hl:(s.object code).H.objects.length=s.H.objects.length+1:=by rw[hob];simp
 refine⟨⟨h.wf,h.own,λo ho=>?_,λc hc=>?_,h.clo,?_,h.calls,h.steps,?_,?_,?_,?_,?_⟩,⟨by omega,λi c hc=>⟨c,hc,rfl,rfl⟩,Y0 _,⟨[],(List.append_nil _).symm⟩,⟨[],(List.append_nil _).symm⟩,rfl,rfl,rfl,Int.le_refl _,⟨[],(List.append_nil _).symm⟩,⟨[],(List.append_nil _).symm⟩⟩⟩
 .rw[hob]at ho;rcases List.mem_append.1 ho with u|u
  .have g:=h.obj o u;exact⟨g.1,g.2.1,λp hp=>by rw[hl];exact(g.2.2.1 p hp).mono Qe,by rw[m];omega⟩
  .simp only[List.mem_singleton]at u;subst u;exact⟨hc,y,(λp hp=>by cases hp),by rw[m];have:=h.szO;simp;omega⟩
 .have g:=h.scp c hc;exact⟨g.1,by rw[hl];have:=g.2.1;omega,λx hx=>by rw[hl];exact⟨(g.2.2.1 x hx).1.mono Qe,(g.2.2.1 x hx).2⟩,by rw[m];omega⟩
 .rw[hl];exact h.last.mono Qe
 .have:=h.szO;rw[m,hl];omega
 .have:=h.szS;rw[m,F];omega
 .have:=h.szC;rw[m];show s.clos.length+d<=_;omega
 .have:=h.szL;rw[m];show s.log.length+d<=_;omega
 .have:=h.szN;rw[m];show s.seen.length+d<=_;omega
theorem Inv.clos{c:Clo}(h:Inv s (d+1))(hc:Lp c.node/\0<=c.scope/\c.scope<s.H.scopes.length):Inv {s with clos:=s.clos++[c]} d/\Ext s {s with clos:=s.clos++[c]}:=by
 refine⟨⟨h.wf,h.own,λo ho=>?_,λc hc=>?_,λx hx=>?_,h.last,h.calls,h.steps,?_,?_,?_,?_,?_⟩,⟨Y0 _,λi c hc=>⟨c,hc,rfl,rfl⟩,Y0 _,⟨[],(List.append_nil _).symm⟩,⟨[c],rfl⟩,rfl,rfl,rfl,Int.le_refl _,⟨[],(List.append_nil _).symm⟩,⟨[],(List.append_nil _).symm⟩⟩⟩
 .have g:=h.obj o ho;exact⟨g.1,by have:=g.2.1;simp;omega,g.2.2.1,by show _<=20000*(s.steps.toNat+1);omega⟩
 .have g:=h.scp c hc;exact U6
 .rcases List.mem_append.1 hx with m|m;·exact h.clo x m
  .simp only[List.mem_singleton]at m;subst m;exact hc
 .exact Zrg
 .exact Ztb
 .have:=h.szC;show(s.clos++[c]).length+d<=20000*(s.steps.toNat+1);simp;omega
 .exact Zrt
 .exact Zts
theorem Inv.log{t:kB}(h:Inv s (d+1)):Inv {s with log:=s.log++[t]} d/\Ext s {s with log:=s.log++[t]}:=by
 refine⟨⟨h.wf,h.own,λo ho=>?_,λc hc=>?_,h.clo,h.last,h.calls,h.steps,?_,?_,?_,?_,?_⟩,⟨Y0 _,λi c hc=>⟨c,hc,rfl,rfl⟩,Y0 _,⟨[],(List.append_nil _).symm⟩,⟨[],(List.append_nil _).symm⟩,rfl,rfl,rfl,Int.le_refl _,⟨[t],rfl⟩,⟨[],(List.append_nil _).symm⟩⟩⟩
 .have g:=h.obj o ho;exact U6
 .have g:=h.scp c hc;exact U6
 .exact Zrg
 .exact Ztb
 .exact Ztp
 .have:=h.szL;show(s.log++[t]).length+d<=20000*(s.steps.toNat+1);simp;omega
 .exact Zts
theorem Inv.seen{t:Int×Int}(h:Inv s (d+1)):Inv {s with seen:=s.seen++[t]} d/\Ext s {s with seen:=s.seen++[t]}:=by
 refine⟨⟨h.wf,h.own,λo ho=>?_,λc hc=>?_,h.clo,h.last,h.calls,h.steps,?_,?_,?_,?_,?_⟩,⟨Y0 _,λi c hc=>⟨c,hc,rfl,rfl⟩,Y0 _,⟨[],(List.append_nil _).symm⟩,⟨[],(List.append_nil _).symm⟩,rfl,rfl,rfl,Int.le_refl _,⟨[],(List.append_nil _).symm⟩,⟨[t],rfl⟩⟩⟩
 .have g:=h.obj o ho;exact U6
 .have g:=h.scp c hc;exact U6
 .exact Zrg
 .exact Ztb
 .exact Ztp
 .exact Zrt
 .have:=h.szN;show(s.seen++[t]).length+d<=20000*(s.steps.toNat+1);simp;omega
def Inv.turn{k c:Int}{v:LVal}{d':Nat}(h:Inv s d)(hk:s.steps<=k)(m:k<=20001)(hc:0<=c/\c<=40)(p:v.ok s.H.objects.length)(hd:d'+20000*s.steps.toNat<=d+20000*k.toNat) :
 Inv {s with steps:=k,calls:=c,last:=v} d'/\Ext s {s with steps:=k,calls:=c,last:=v}:=by
 have u:=h.steps;refine⟨⟨h.wf,h.own,λo ho=>?_,λc hc=>?_,h.clo,p,hc,⟨Int.le_trans h.steps.1 hk,m⟩,?_,?_,?_,?_,?_⟩,⟨Y0 _,λi c hc=>⟨c,hc,rfl,rfl⟩,Y0 _,⟨[],(List.append_nil _).symm⟩,⟨[],(List.append_nil _).symm⟩,rfl,rfl,rfl,hk,⟨[],(List.append_nil _).symm⟩,⟨[],(List.append_nil _).symm⟩⟩⟩
 .have g:=h.obj o ho;exact Zze
 .have g:=h.scp c hc;exact Zze
 .have:=h.szO;show s.H.objects.length+d'<=20000*(k.toNat+1);omega
 .have:=h.szS;show s.H.scopes.length+d'<=20000*(k.toNat+1);omega
 .have:=h.szC;show s.clos.length+d'<=20000*(k.toNat+1);omega
 .have:=h.szL;show s.log.length+d'<=20000*(k.toNat+1);omega
 .have:=h.szN;show s.seen.length+d'<=20000*(k.toNat+1);omega
end
section
variable {t:Tree}
def AcO(h:Wf .v [t])(hk:t.kind=17):0<=t.n/\t.n<=1000000000/\t.kids=[]:=by
 cases h
 all_goals first
  |(exfalso;simp only[Tree.kind]at hk;omega)
  |exact⟨‹_›,‹_›,rfl⟩
def AcP(h:Wf .v [t])(hk:t.kind=18):t.text.size<=500/\t.kids=[]:=by
 cases h
 all_goals first
  |(exfalso;simp only[Tree.kind]at hk;omega)
  |exact⟨‹_›,rfl⟩
def Abu(h:Wf .v [t])(hk:t.kind=24):∃x y,t.kids=[x,y]/\(x.kind=23\/x.kind=36)/\Wf .v [x]/\Wf .v [y]:=by
 cases h
 all_goals first
  |(exfalso;simp only[Tree.kind]at hk;omega)
  |exact⟨_,_,rfl,‹_›,‹_›,‹_›⟩
def wv2(h:Wf .v [t])(g:25<=t.kind)(m:t.kind<=31):∃x y,t.kids=[x,y]/\Wf .v [x]/\Wf .v [y]:=by
 cases h
 all_goals first
  |(exfalso;simp only[Tree.kind]at g m;omega)
  |exact⟨_,_,rfl,‹_›,‹_›⟩
def wv1(h:Wf .v [t])(g:32<=t.kind)(m:t.kind<=34):∃x,t.kids=[x]/\Wf .v [x]:=by
 cases h
 all_goals first
  |(exfalso;simp only[Tree.kind]at g m;omega)
  |exact⟨_,rfl,‹_›⟩
def Acg(h:Wf .v [t])(hk:t.kind=35):∃x l,t.kids=x::l/\Wf .v [x]/\Wf .vl l:=by
 cases h
 all_goals first
  |(exfalso;simp only[Tree.kind]at hk;omega)
  |exact⟨_,_,rfl,‹_›,‹_›⟩
def T7(h:Wf .v [t])(hk:t.kind=36):xq t.text/\∃x,t.kids=[x]/\Wf .v [x]:=by
 cases h
 all_goals first
  |(exfalso;simp only[Tree.kind]at hk;omega)
  |exact⟨‹_›,_,rfl,‹_›⟩
def Acz(h:Wf .v [t])(hk:t.kind=37):(t.text=ByteArray.empty\/xq t.text)/\∃l b,t.kids=[.mk 40 ByteArray.empty 0 l,b]/\Wf .pl l/\Wf .b [b]:=by
 cases h
 all_goals first
  |(exfalso;simp only[Tree.kind]at hk;omega)
  |exact⟨‹_›,_,_,rfl,‹_›,‹_›⟩
def Ab0(h:Wf .v [t])(hk:t.kind=38):Wf .ol t.kids:=by
 cases h
 all_goals first
  |(exfalso;simp only[Tree.kind]at hk;omega)
  |assumption
def Zmt(h:Wf .v [t]):17<=t.kind/\t.kind<=38:=by
 cases h;all_goals simp only[Tree.kind]at *
 all_goals omega
def wb(h:Wf .b [t]):t.kind=6/\Wf .sl t.kids/\t.text=wv t.kids:=by
 cases h;exact⟨rfl,‹_›,rfl⟩
def wk(h:Wf .k [t]):t.kind=6/\Wf .sl t.kids/\t.text=ByteArray.empty:=by
 cases h;exact⟨rfl,‹_›,rfl⟩
def Zkz(h:Wf .s [t]):2<=t.kind/\t.kind<=16/\t.kind≠13/\t.kind≠14:=by
 cases h;case blk h=>have:=(wk h).1;omega
 all_goals simp only[Tree.kind]at *
 all_goals omega
def Zhi(h:Wf .s [t])(hk:t.kind=6):Wf .k [t]:=by
 cases h;case blk h=>exact h
 all_goals simp only[Tree.kind]at hk
 all_goals omega
def ws2(h:Wf .s [t])(hk:t.kind=2\/t.kind=3\/t.kind=4):xq t.text/\(t.kids=[]\/∃x,t.kids=[x]/\Wf .v [x]):=by
 cases h;case blk h=>exfalso;have:=(wk h).1;omega
 all_goals first
  |(exfalso;simp only[Tree.kind]at hk;omega)
  |exact⟨‹_›,.inl rfl⟩
  |exact⟨‹_›,.inr ⟨_,rfl,‹_›⟩⟩
def ws5(h:Wf .s [t])(hk:t.kind=5):xq t.text/\∃l b,t.kids=[.mk 40 ByteArray.empty 0 l,b]/\Wf .pl l/\Wf .b [b]:=by
 cases h;case blk h=>exfalso;have:=(wk h).1;omega
 all_goals first
  |(exfalso;simp only[Tree.kind]at hk;omega)
  |exact⟨‹_›,_,_,rfl,‹_›,‹_›⟩
def ws7(h:Wf .s [t])(hk:t.kind=7):∃x y,Wf .v [x]/\Wf .s [y]/\(t.kids=[x,y]\/∃z,t.kids=[x,y,z]/\Wf .s [z]):=by
 cases h;case blk h=>exfalso;have:=(wk h).1;omega
 all_goals first
  |(exfalso;simp only[Tree.kind]at hk;omega)
  |exact⟨_,_,‹_›,‹_›,.inl rfl⟩
  |exact⟨_,_,‹Wf .v _›,‹_›,.inr ⟨_,rfl,‹_›⟩⟩
def ws8(h:Wf .s [t])(hk:t.kind=8\/t.kind=9):∃x y,t.kids=[x,y]/\Wf .v [x]/\Wf .s [y]:=by
 cases h;case blk h=>exfalso;have:=(wk h).1;omega
 all_goals first
  |(exfalso;simp only[Tree.kind]at hk;omega)
  |exact⟨_,_,rfl,‹_›,‹_›⟩
def AbQ(h:Wf .s [t])(hk:t.kind=10\/t.kind=11):t.kids=[]/\t.kind=10\/∃x,t.kids=[x]/\Wf .v [x]:=by
 cases h;case blk h=>exfalso;have:=(wk h).1;omega
 all_goals first
  |(exfalso;simp only[Tree.kind]at hk;omega)
  |exact .inl ⟨rfl,rfl⟩
  |exact .inr ⟨_,rfl,‹_›⟩
def Han(k:Tree):Prop:=(k.kind=13/\xq k.text\/k.kind=14)/\∃c,k.kids=[c]/\Wf .k [c]
def AbV(h:Wf .s [t])(hk:t.kind=12):∃b l,t.kids=b::l/\Wf .k [b]/\l.length<=2/\∀k∈l,Han k:=by
 cases h;case blk h=>exfalso;have:=(wk h).1;omega
 all_goals first
  |(exfalso;simp only[Tree.kind]at hk;omega)
  |exact⟨_,_,rfl,‹_›,by simp,λk g=>by(simp at g;subst g;exact⟨.inl ⟨rfl,‹_›⟩,_,rfl,‹_›⟩)⟩
  |exact⟨_,_,rfl,‹_›,by simp,λk g=>by(simp at g;subst g;exact⟨.inr rfl,_,rfl,‹_›⟩)⟩
  |exact⟨_,_,rfl,‹_›,by simp,λk g=>by(simp at g;rcases g with rfl|rfl<;>first|exact⟨.inl ⟨rfl,‹_›⟩,_,rfl,‹_›⟩|exact⟨.inr rfl,_,rfl,‹_›⟩)⟩
def AaK(h:Wf .s [t])(hk:t.kind=15):∃x,t.kids=[x]/\Wf .v [x]:=by
 cases h;case blk h=>exfalso;have:=(wk h).1;omega
 all_goals first
  |(exfalso;simp only[Tree.kind]at hk;omega)
  |exact⟨_,rfl,‹_›⟩
def AaQ(h:Wf .s [t])(hk:t.kind=16):t.kids=[]:=by
 cases h;case blk h=>exfalso;have:=(wk h).1;omega
 all_goals first
  |(exfalso;simp only[Tree.kind]at hk;omega)
  |rfl
end
def Zhv{t:Tree}{l:List Tree}(h:Wf .sl (t::l)):Wf .s [t]/\Wf .sl l:=by
 cases h;exact⟨‹_›,‹_›⟩
def Zhm{t:Tree}{l:List Tree}(h:Wf .vl (t::l)):Wf .v [t]/\Wf .vl l:=by
 cases h;exact⟨‹_›,‹_›⟩
def Zi7{t:Tree}{l:List Tree}(h:Wf .ol (t::l)):(t.kind=39/\xq t.text/\∃x,t.kids=[x]/\Wf .v [x])/\Wf .ol l:=by
 cases h;exact⟨⟨rfl,‹_›,_,rfl,‹_›⟩,‹_›⟩
def Zup{l:List Tree}(h:Wf .sl l){t:Tree}(ht:t∈l):Wf .s [t]:=by
 induction l with
 |nil=>cases ht
 |cons x l g=>
   rcases List.mem_cons.1 ht with rfl|m;·exact(Zhv h).1
   .exact g (Zhv h).2 m
section
variable {s t:MSt}{d:Nat}
theorem CC{o:Int}{name:kB}{v:LVal}{fx:Bool}(h:Inv s (d+1))(g:v.ok s.H.objects.length):Inv (s.put o name v fx) d/\Ext s (s.put o name v fx):=h.near (ZU g)
theorem UW{sc kind:Int}{name:kB}{v:LVal}(h:Inv s (d+1))(g:v.ok s.H.objects.length)(m:0<=kind)(o:kind<=4):Inv (s.declare sc name kind v) d/\Ext s (s.declare sc name kind v):=h.near (Z6c g m o)
theorem Z84{sc:Int}{name:kB}{v:LVal}(h:Inv s (d+1))(g:v.ok s.H.objects.length):Inv (s.write sc name v) d/\Ext s (s.write sc name v):=h.near (Zij g)
def Z5a{sc:Int}{name:kB}{v:LVal}(h:Inv s (d+1))(g:v.ok s.H.objects.length):Inv (s.bindTo sc name v) d/\Ext s (s.bindTo sc name v):=by
 unfold MSt.bindTo;split;·exact UW h g Qg Qg
 .exact Z84 h g
def Z8c{sc:Int}{name:kB}(h:Inv s (d+1)):Inv (s.loose sc name) d/\Ext s (s.loose sc name):=by
 unfold MSt.loose;split;·exact⟨h.less Qe,Ext.refl _⟩
 .split;·exact CC h (sP _)
  .exact UW h (sP _) Qg Qg
theorem ZE{β:Type}(f:MSt->β->MSt)(c:Nat)(g:MSt)(P:β->Prop)(hf:∀s d b,P b->Ext g s->Inv s (d+c)->Inv (f s b) d/\Ext s (f s b)) :
 ∀(l:List β) (s:MSt) (d:Nat),(∀b∈l,P b)->Ext g s->Inv s (d+c*l.length)->Inv (l.foldl f s) d/\Ext s (l.foldl f s)
 | [],s,d,_,_,h=>⟨h.less Qm,Ext.refl _⟩
 |b::l,s,d,m,o,h=>by
   obtain⟨u,p⟩:=hf s (d+c*l.length) b (m b Qm) o (h.less (by rw[List.length_cons,Nat.mul_succ];omega));obtain⟨y,F⟩:=ZE f c g P hf l (f s b) d (λx hx=>m x (by simp[hx])) (o.trans p) u;exact⟨y,p.trans F⟩
def Wi{l:List NT}{sc:Int}(h:Inv s (d+l.length)):Inv (s.lets l sc) d/\Ext s (s.lets l sc):=
 ZE _ 1 s (λ_=>True) (λs d b _ _ h=>UW h (sP _) (by split<;>decide) (by split<;>decide)) l s d (λ_ _=>trivial) (Ext.refl _) Sw
def Zhj{l:List kB}{sc:Int}(h:Inv s (d+l.length)):Inv (s.vars l sc) d/\Ext s (s.vars l sc):=
 ZE _ 1 s (λ_=>True) (λs d b _ _ h=>UW h (sP _) Qg Qg) l s d (λ_ _=>trivial) (Ext.refl _) Sw
def Zcb{l:List kB}{sc:Int}(h:Inv s (d+l.length)):Inv (s.looses l sc) d/\Ext s (s.looses l sc):=
 ZE _ 1 s (λ_=>True) (λs d b _ _ h=>Z8c h) l s d (λ_ _=>trivial) (Ext.refl _) Sw
def Z6x{n:NT}{sc:Int}{fr:Frm}(h:Inv s (d+4))(hn:Lp n)(o:0<=sc)(m:sc<s.H.scopes.length) :
 Inv (s.funS n sc fr) d/\Ext s (s.funS n sc fr)/\(s.funS n sc fr).H.objects.length=s.H.objects.length+1:=by
 unfold MSt.funS;cases hnm:n.named with
 |true=>
   simp only[if_true];obtain⟨p,a2⟩:=h.opens (d:=d+3) (outer:=sc) (object:=-1) (owner:=n.num) Qe m Qg Qe;have hl:(s.opens sc (-1) n.num).H.scopes.length=s.H.scopes.length+1:=by simp[MSt.opens]
   obtain⟨b1,b2⟩:=p.clos (d:=d+2) (c:=⟨n,s.next,fr.strict||(n.kid 1).strict⟩) ⟨hn,by show(0:Int)<=s.H.scopes.length;omega,by show(s.H.scopes.length:Int)<_;rw[hl];omega⟩;obtain⟨c1,c2⟩:=b1.object (d:=d+1) (code:=3+s.clos.length) Qe (by simp[MSt.opens];omega);have g:((({s.opens sc (-1) n.num with clos:=(s.opens sc (-1) n.num).clos++[⟨n,s.next,fr.strict||(n.kid 1).strict⟩]}:MSt).object (3+s.clos.length))).H.objects.length=s.H.objects.length+1:=by simp[MSt.object,MSt.setH,MSt.opens]
   obtain⟨u,y⟩:=UW (sc:=s.next) (kind:=3) (name:=n.text) (v:=.ref s.nextO) c1 (Ti (by show(0:Int)<=s.H.objects.length;omega) (by rw[g];show(s.H.objects.length:Int)<_;omega)) Qg Qg;refine⟨u,((a2.trans b2).trans c2).trans y,?_⟩
   have:=(Z6c (H:=((({s.opens sc (-1) n.num with clos:=(s.opens sc (-1) n.num).clos++[⟨n,s.next,fr.strict||(n.kid 1).strict⟩]}:MSt).object (3+s.clos.length))).H) (n:=s.next) (name:=n.text) (kind:=3) (v:=.ref s.nextO) (Ti (by show(0:Int)<=s.H.objects.length;omega) (by rw[g];show(s.H.objects.length:Int)<_;omega)) Qg Qg).lo;show(LHeap.declare _ _ _ _ _).1.objects.length=_;rw[this,g]
 |false=>
   simp only[Bool.false_eq_true,if_false];obtain⟨b1,b2⟩:=h.clos (d:=d+3) (c:=⟨n,sc,fr.strict||(n.kid 1).strict⟩) ⟨hn,o,m⟩;obtain⟨c1,c2⟩:=b1.object (d:=d+2) (code:=3+s.clos.length) Qe Qi;exact⟨c1.less Qe,b2.trans c2,by simp[MSt.object,MSt.setH]⟩
def Z6m{p:MSt->kB->MSt}{g:MSt->kB->LVal->MSt}{l:List NT}{sc:Int}{fr:Frm}(h:Inv s (d+6*l.length))(hl:∀n∈l,Lp n)(y:0<=sc)(I:sc<s.H.scopes.length)
 (hp:∀u e x,Ext s u->Inv u (e+1)->Inv (p u x) e/\Ext u (p u x))(F:∀u e x v,Ext s u->Inv u (e+1)->v.ok u.H.objects.length->Inv (g u x v) e/\Ext u (g u x v)) :
 Inv (s.funcs p g l sc fr) d/\Ext s (s.funcs p g l sc fr):=by
 unfold MSt.funcs;refine ZE _ 6 s Lp (λu e n hn m hi=>?_) l s d hl (Ext.refl _) h;obtain⟨G,a2⟩:=hp u (e+5) n.text m hi;have o:=m.trans a2;obtain⟨b1,b2,b3⟩:=Z6x (d:=e+1) (sc:=sc) (fr:=fr) G hn y (by have:=o.ls;omega);obtain⟨c1,c2⟩:=F _ e n.text (.ref (p u n.text).nextO) (o.trans b2) b1 (Ti (by show(0:Int)<=(p u n.text).H.objects.length;omega) (by rw[b3];show((p u n.text).H.objects.length:Int)<_;omega));exact⟨c1,(a2.trans b2).trans c2⟩
def Zda{n:NT}{sc:Int}{name:kB}(h:Inv s (d+1)):Inv (s.look n sc name) d/\Ext s (s.look n sc name):=by
 unfold MSt.look;split;·exact h.seen
 .exact⟨h.less Qe,Ext.refl _⟩
def Zhy{n:NT}{sc:Int}{name:kB}:(s.look n sc name).H=s.H/\(s.look n sc name).steps=s.steps/\(s.look n sc name).calls=s.calls:=by
 unfold MSt.look;split<;>exact⟨rfl,rfl,rfl⟩
theorem Z8q{sc:Int}:∀(l:List NT) (vs:List LVal) (s:MSt) (d:Nat),Inv s (d+l.length)->(∀v∈vs,v.ok s.H.objects.length)->Inv (MSt.params sc l vs s) d/\Ext s (MSt.params sc l vs s)
 | [],vs,s,d,h,_=>⟨h.less Qm,Ext.refl _⟩
 |p::l,vs,s,d,h,g=>by
   have m:(vs.headD LVal.zero).ok s.H.objects.length:=by
    cases vs with
    |nil=>exact sP _
    |cons v vs=>exact g v Qm
   obtain⟨o,a2⟩:=Z5a (d:=d+l.length) (sc:=sc) (name:=p.text) (h.less RI) m;obtain⟨b1,b2⟩:=Z8q l vs.tail _ d o (λv u=>(g v (List.mem_of_mem_tail u)).mono a2.lo);exact⟨b1,a2.trans b2⟩
theorem Za2{o:Int}:∀(vs:List LVal) (i:Nat) (s:MSt) (d:Nat),Inv s (d+vs.length)->(∀v∈vs,v.ok s.H.objects.length)->Inv (MSt.argsPut o i vs s) d/\Ext s (MSt.argsPut o i vs s)
 | [],i,s,d,h,_=>⟨h.less Qm,Ext.refl _⟩
 |v::l,i,s,d,h,g=>by
   obtain⟨m,a2⟩:=CC (d:=d+l.length) (o:=o) (name:=MSt.argN i) (fx:=false) (h.less RI) (g v Qm);obtain⟨b1,b2⟩:=Za2 l (i+1) _ d m (λx p=>(g x (by simp[p])).mono a2.lo);exact⟨b1,a2.trans b2⟩
def Zaw{sc:Int}{vs:List LVal}(h:Inv s (d+vs.length+3))(g:∀v∈vs,v.ok s.H.objects.length)(hl:vs.length<=1000000000):Inv (s.argsObj sc vs) d/\Ext s (s.argsObj sc vs):=by
 unfold MSt.argsObj;obtain⟨m,a2⟩:=h.object (d:=d+vs.length+2) (code:=0) Qg Qe;have I:(s.object 0).H.objects.length=s.H.objects.length+1:=RY
 obtain⟨b1,b2⟩:=CC (d:=d+vs.length+1) (o:=s.nextO) (name:=ZV) (v:=.num vs.length) (fx:=false) m (Zhu Qe Qe);obtain⟨c1,c2⟩:=Za2 (o:=s.nextO) vs 0 _ (d+1) (b1.less Qe) (λv p=>(g v p).mono (Y4 a2.lo b2.lo));have u:=((a2.trans b2).trans c2)
 obtain⟨y,F⟩:=UW (sc:=sc) (kind:=0) (name:=Zc) (v:=.ref s.nextO) c1 (Ti (by show(0:Int)<=s.H.objects.length;omega) (by
  have J:=b2.lo;have O:=c2.lo;show(s.H.objects.length:Int)<_;omega)) Qg Qg
 exact⟨y,u.trans F⟩
end
inductive Anc(H:LHeap)(v:Int):Int->Prop
 |refl:Anc H v v
 |up {sc:Int} {c:LScope}:H.scope? sc=some c->Anc H v c.outer->Anc H v sc
structure Root(s:MSt):Prop where
 glob:s.glob=0
 outer:s.outer=0
 top:s.top=1
 objs:0<s.H.objects.length
 many:2<=s.H.scopes.length
 one:∃c,s.H.scopes[1]?=some c/\c.outer=0
structure FAt(s:MSt)(sc:Int)(fr:Frm):Prop where
 root:Root s
 lo:0<=sc
 hi:sc<s.H.scopes.length
 anc:Anc s.H fr.vars sc
 vlo:0<=fr.vars
theorem scope?_ext{s t:MSt}(h:Ext s t){i:Int}{c:LScope}(hc:s.H.scope? i=some c):∃c',t.H.scope? i=some c'/\c'.outer=c.outer/\c'.object=c.object:=by
 obtain⟨m,rfl,g⟩:=LHeap.scope?_some hc;obtain⟨c',o,p,u⟩:=h.scp m c g;exact⟨c',by unfold LHeap.scope?;rw[Y3 Qe];exact o,p,u⟩
def Anc.ext{s t:MSt}(h:Ext s t){v sc:Int}(a:Anc s.H v sc):Anc t.H v sc:=by
 induction a with
 |refl=>exact .refl
 |up hc _ g=>
   obtain⟨c',m,o,_⟩:=scope?_ext h hc;exact .up m (by rw[o];exact g)
def Root.ext{s t:MSt}(r:Root s)(h:Ext s t):Root t:=by
 obtain⟨c,g,m⟩:=r.one;obtain⟨c',o,p,_⟩:=h.scp 1 c g;exact⟨h.glob.trans r.glob,h.outer.trans r.outer,h.top.trans r.top,Y7 r.objs h.lo,Y4 r.many h.ls,c',o,p.trans m⟩
theorem FAt.ext{s t:MSt}{sc:Int}{fr:Frm}(a:FAt s sc fr)(h:Ext s t):FAt t sc fr:=⟨a.root.ext h,a.lo,by have:=h.ls;have:=a.hi;omega,a.anc.ext h,a.vlo⟩
theorem FAt.opens{s:MSt}{sc:Int}{fr:Frm}{object owner:Int}(a:FAt s sc fr)(h:Ext s (s.opens sc object owner)):FAt (s.opens sc object owner) s.next fr:=by
 have hl:(s.opens sc object owner).H.scopes.length=s.H.scopes.length+1:=by simp[MSt.opens]
 refine⟨a.root.ext h,by show(0:Int)<=s.H.scopes.length;omega,by rw[hl];show(s.H.scopes.length:Int)<_;omega,?_,a.vlo⟩;refine .up (c:=⟨sc,object,[]⟩) ?_ (a.anc.ext h);unfold LHeap.scope? MSt.next;rw[Y3 Qe];simp[MSt.opens]
def Fin{α:Type}(s:MSt)(d:Nat)(Q:MSt->α->Prop)(r:MSt×Except Er α):Prop:=
 Inv r.1 d/\Ext s r.1/\r.1.calls=s.calls/\match r.2 with
  | .ok v=>Q r.1 v/\r.1.steps<=20000
  | .error .stop=>r.1.steps=20001
  | .error (.thr v)=>v.ok r.1.H.objects.length/\r.1.steps<=20000
section
variable {α β:Type}{s s1:MSt}{d e:Nat}{Q:MSt->α->Prop}{R:MSt->β->Prop}
theorem Fin.ok{v:α}(h:Inv s1 d)(x:Ext s s1)(hc:s1.calls=s.calls)(hs:s1.steps<=20000)(hq:Q s1 v):Fin s d Q (ga v s1):=⟨h,x,hc,hq,hs⟩
theorem Fin.thr{v:LVal}(h:Inv s1 d)(x:Ext s s1)(hc:s1.calls=s.calls)(hs:s1.steps<=20000)(hq:v.ok s1.H.objects.length):Fin s d Q (uC (.thr v) s1):=⟨h,x,hc,hq,hs⟩
theorem Fin.raise{t:kB}(h:Inv s1 d)(x:Ext s s1)(hc:s1.calls=s.calls)(hs:s1.steps<=20000)(ht:t.size<=500):Fin s d Q (va t s1):=Fin.thr h x hc hs (Zei ht)
def Fin.bind{m:RM α}{k:α->RM β}(h:Fin s d Q (m s))(hk:∀t v,Inv t d->Ext s t->t.calls=s.calls->t.steps<=20000->Q t v->Fin t e R (k v t))(he:e<=d):Fin s e R (iC m k s):=by
 obtain⟨u,g,o,p⟩:=h;unfold iC;split
 .rename_i t v hr;rw[hr]at u g o p;obtain⟨y,F,G,I⟩:=hk t v u g o p.2 p.1;exact⟨y,g.trans F,G.trans o,I⟩
 .rename_i t x hr;rw[hr]at u g o p;refine⟨u.less he,g,o,?_⟩;cases x<;>exact p
theorem Fin.pre{r:MSt×Except Er α}(x:Ext s s1)(hc:s1.calls=s.calls)(h:Fin s1 d Q r):Fin s d Q r:=⟨h.1,x.trans h.2.1,h.2.2.1.trans hc,h.2.2.2⟩
theorem Fin.less{r:MSt×Except Er α}(h:Fin s d Q r)(he:e<=d):Fin s e Q r:=⟨h.1.less he,h.2⟩
end
def VQ(t:MSt)(v:LVal):Prop:=v.ok t.H.objects.length
def DQ(t:MSt)(r:Bool×LVal):Prop:=r.2.ok t.H.objects.length
theorem VQ.ext{s t:MSt}{v:LVal}(h:VQ s v)(x:Ext s t):VQ t v:=LVal.ok.mono h x.lo
def VH(V:VF)(b:Int):Prop:=∀n sc fr s d,n.wf .v->n.tree.many<=1500->Inv s d->FAt s sc fr->b<=s.steps->s.steps<=20000->Fin s d VQ (V n sc fr s)/\s.steps<(V n sc fr s).1.steps
def DH(D:DF)(b:Int):Prop:=∀n sc fr s d,n.wf .s->n.tree.many<=1500->Inv s d->FAt s sc fr->b<=s.steps->s.steps<=20000->Fin s d DQ (D n sc fr s)/\s.steps<(D n sc fr s).1.steps
section
variable {n:NT}
theorem Z6:n.tree.kind=n.kind:=by cases n;rfl
theorem Zk3:n.tree.text=n.text:=by cases n;rfl
theorem Ztv:n.tree.n=n.n:=by cases n;rfl
theorem E1:n.tree.kids=qa n.kids:=by cases n;rfl
theorem XM:∀l:List NT,qa l=l.map NT.tree
 | []=>rfl
 |x::l=>by rw[qa,XM l];rfl
theorem Z74{l:List NT}(h:qa l=[]):l=[]:=by cases l with|nil=>rfl|cons x l=>simp[qa]at h
def Ve{l:List NT}{t:Tree}{r:List Tree}(h:qa l=t::r):∃x g,l=x::g/\x.tree=t/\qa g=r:=by
 cases l with
 |nil=>simp[qa]at h
 |cons x l=>simp only[qa,List.cons.injEq]at h;exact⟨x,l,rfl,h.1,h.2⟩
theorem Zfd(h:n.tree.kids=[]):n.kids=[]:=by rw[E1]at h;exact Z74 h
def SO{x:Tree}(h:n.tree.kids=[x]):∃a,n.kids=[a]/\a.tree=x:=by
 rw[E1]at h;obtain⟨a,l,g,m,o⟩:=Ve h;rw[Z74 o]at g;exact⟨a,g,m⟩
def UO{x y:Tree}(h:n.tree.kids=[x,y]):∃a b,n.kids=[a,b]/\a.tree=x/\b.tree=y:=by
 rw[E1]at h;obtain⟨a,l,g,o,p⟩:=Ve h;obtain⟨b,G,m,u,F⟩:=Ve p;rw[Z74 F]at m;rw[m]at g;exact⟨a,b,g,o,u⟩
def Zr7{x y z:Tree}(h:n.tree.kids=[x,y,z]):∃a b c,n.kids=[a,b,c]/\a.tree=x/\b.tree=y/\c.tree=z:=by
 rw[E1]at h;obtain⟨a,l,g,p,u⟩:=Ve h;obtain⟨b,O,m,F,G⟩:=Ve u;obtain⟨c,U,o,I,J⟩:=Ve G;rw[Z74 J]at o;rw[o]at m;rw[m]at g;exact⟨a,b,c,g,p,F,I⟩
theorem Z8z:mO (qa n.kids)+1=n.tree.many:=by cases n;simp only[NT.kids,NT.tree,Tree.many]
theorem Zq5(t:Tree):1<=t.many:=by cases t;simp only[Tree.many];omega
def Zn9{l:List NT}{x:NT}(h:x∈l):x.tree.many<=mO (qa l):=by
 induction l with
 |nil=>cases h
 |cons y l ih=>
   simp only[qa,mO];exact Xy
theorem Dv{x:NT}(h:x∈n.kids):x.tree.many<n.tree.many:=by have:=Zn9 h;have:=Z8z (n:=n);omega
def Td:n.kids.length<n.tree.many:=by
 have h:∀l:List Tree,l.length<=mO l:=by
  intro l;induction l with
  |nil=>simp[mO]
  |cons x l g=>have:=Zq5 x;simp only[mO,List.length_cons];omega
 have h:=h (qa n.kids);have m:=Z8z (n:=n);have o:(qa n.kids).length=n.kids.length:=by rw[XM,Ym]
 omega
mutual
theorem Znm:∀(x:NT) (g:List kB),(YJ x g).length<=g.length+x.tree.many
 | .mk i k t m l,g=>by
   unfold YJ;split;·omega
   .have h:=Z8x l (if k=2 then lw g t else g);have o:(if k=2 then lw g t else g).length<=g.length+1:=by
     split;·exact Zic g t
     .omega
    simp only[NT.tree,Tree.many];omega
theorem Z8x:∀(l:List NT) (g:List kB),(Tn l g).length<=g.length+mO (qa l)
 | [],g=>by simp[Tn,qa,mO]
 |x::l,g=>by
   have m:=Znm x g;have o:=Z8x l (YJ x g);simp only[Tn,qa,mO];omega
end
def Z8a:n.vars.length<=n.tree.many:=by
 have h:=Z8x n.kids [];have g:=Z8z (n:=n);unfold NT.vars;simp only[List.length_nil]at h;omega
theorem Z73:n.lets.length<=n.kids.length:=List.length_filter_le _ _
theorem Z6u:n.funcs.length<=n.kids.length:=List.length_filter_le _ _
def NT.stm(x:NT):Prop:=Wf .sl (qa x.kids)
theorem Zkp(h:n.stm){x:NT}(hx:x∈n.kids):x.wf .s:=Zup h (by rw[XM];exact List.mem_map.2 ⟨x,hx,rfl⟩)
def Wq(h:n.stm)(o:n.tree.many<=1500):∀x∈n.funcs,Lp x:=by
 intro x hx;obtain⟨g,m⟩:=List.mem_filter.1 hx;have hk:=Dv g;exact⟨.inl ⟨by simpa using m,Zkp h g⟩,by omega⟩
def Z86(h:Lp n):∃p b,n.kids=[p,b]/\p.kids.length<=1500/\b.stm/\b.kind=6/\b.tree.many<=1500/\Wf .pl (qa p.kids):=by
 have g:∃l b,n.tree.kids=[.mk 40 ByteArray.empty 0 l,b]/\Wf .pl l/\Wf .b [b]:=by
  rcases h.1 with⟨hk,hw⟩|⟨hk,hw⟩;·exact(ws5 hw QF).2
  .exact(Acz hw QF).2
 obtain⟨l,b,o,u,y⟩:=g;obtain⟨p,q,g1,F,m⟩:=UO o;have hp:=Dv (n:=n) (x:=p) Qy;have hq:=Dv (n:=n) (x:=q) Qy;have I:=Td (n:=p);have J:=h.2;obtain⟨b1,b2,b3⟩:=wb y;refine⟨p,q,g1,by omega,?_,by rw[<-Z6,m];exact b1,by omega,?_⟩;·unfold NT.stm;rw[<-E1,m];exact b2
 .rw[<-E1,F];exact u
end
section
variable {V:VF}{D:DF}{b:Int}{n:NT}{sc:Int}{fr:Frm}{s:MSt}{d:Nat}
theorem IR:T8.size<=500/\xn.size<=500/\Ul.size<=500/\SQ.size<=500/\WP.size<=500:=⟨by decide,by decide,by decide,by decide,by decide⟩
theorem Q'{x:NT}{l:List NT}(h:n.kids=x::l):n.kid 0=x:=by unfold NT.kid;rw[h];rfl
theorem Wo{x y:NT}{l:List NT}(h:n.kids=x::y::l):n.kid 1=y:=by unfold NT.kid;rw[h];rfl
theorem Zsy{x y z:NT}{l:List NT}(h:n.kids=x::y::z::l):n.kid 2=z:=by unfold NT.kid;rw[h];rfl
def Zcf{a:Int}{name:kB}{v:LVal}(h:Inv s (d+1))(p:v.ok s.H.objects.length)(hs:s.steps<=20000):Fin s d (λ_ _=>True) (Uf a name v fr s):=by
 unfold Uf;split
 .split;·exact Fin.raise (h.less Qe) (Ext.refl _) rfl hs IR.1
  .obtain⟨g,m⟩:=CC (o:=(if 0<=a/\0<=s.H.objectOf a then s.H.objectOf a else s.glob)) (name:=name) (fx:=false) h p;exact Fin.ok g m rfl hs trivial
 .obtain⟨g,m⟩:=Z84 (sc:=a) (name:=name) h p;simp only;split;·exact Fin.raise g m rfl hs IR.1
  .split;·exact Fin.raise g m rfl hs IR.2.1
   .split;·exact Fin.raise g m rfl hs IR.2.1
    .exact Fin.ok g m rfl hs trivial
def Zqz{H:LHeap}{o:Int}{name:kB}{k:Nat}(h:∀x∈H.objects,∀p∈x.props,p.v.ok k):((H.get o name).getD LVal.zero).ok k:=by
 unfold LHeap.get;cases hob:H.object? o with
 |none=>exact sP _
 |some x=>
   obtain⟨m,rfl,g⟩:=LHeap.object?_some hob;simp only[Option.bind_some];cases hi:x.idx name with
   |none=>exact sP _
   |some i=>
     simp only[Option.bind_some];cases hp:x.props[i]? with
     |none=>exact sP _
     |some p=>exact h x (Yd g) p (Yd hp)
def Ztz{a:Int}{name:kB}(h:Inv s d):(s.H.read a name).1.ok s.H.objects.length:=by
 unfold LHeap.read;cases hc:s.H.scope? a with
 |none=>exact sP _
 |some c=>
   obtain⟨m,rfl,g⟩:=LHeap.scope?_some hc;simp only;split
   .split;·exact sP _
    .rename_i x hx;split
     .cases hi:c.idx name with
      |none=>rw[hi]at hx;cases hx
      |some i=>
        rw[hi]at hx;exact((h.scp c (Yd g)).2.2.1 x (Yd hx)).1
     .exact sP _
   .split;·exact sP _
    .rename_i v p;have:=Zqz (H:=s.H) (o:=c.object) (name:=name) (k:=s.H.objects.length) (λx hx=>(h.obj x hx).2.2.1);rw[p]at this;exact this
def Zq7(h:Inv s (d+1))(hs:s.steps<=20000):Fin s d VQ (Zox n sc s):=by
 unfold Zox;obtain⟨g,m⟩:=Zda (n:=n) (sc:=sc) (name:=n.text) h;obtain⟨p,u,o⟩:=Zhy (s:=s) (n:=n) (sc:=sc) (name:=n.text);split;·exact Fin.raise g m o Qe IR.1
 .split;·exact Fin.raise g m o Qe IR.1
  .exact Fin.ok g m o Qe (by unfold VQ;rw[p];exact Ztz h)
def VH.at(g:VH V b){x:NT}(hx:x∈n.kids)(hw:x.wf .v)(m:n.tree.many<=1500)(h:Inv s d)(a:FAt s sc fr)(hb:b<=s.steps)(hs:s.steps<=20000):Fin s d VQ (V x sc fr s):=
 (g x sc fr s d hw (by have:=Dv hx;omega) h a hb hs).1
def Zu1(p:VH V b)(hw:n.wf .v)(hk:n.kind=24)(U:n.tree.many<=1500)(h:Inv s (d+2))(a:FAt s sc fr)(hb:b<=s.steps)(hs:s.steps<=20000):Fin s d VQ (vu V n sc fr s):=by
 obtain⟨x',y',h1,h2,h3,X⟩:=Abu hw QF;obtain⟨x,y,g1,rfl,rfl⟩:=UO h1;unfold vu;rw[Q' g1,Wo g1];have Y:y∈n.kids:=Qy
 have mx:x∈n.kids:=Qy
 split
 .obtain⟨F,i2⟩:=Zda (n:=x) (sc:=sc) (name:=x.text) (d:=d+1) h;obtain⟨e1,e2,e3⟩:=Zhy (s:=s) (n:=x) (sc:=sc) (name:=x.text);refine Fin.pre i2 e3 (Fin.bind (p.at Y X U F (a.ext i2) Qe Qe) (λt v I j2 j3 J O=>?_) Qe);refine Fin.bind (Zcf I O J) (λu _ g Z k3 m _=>?_) (Y0 _);exact Fin.ok g (Ext.refl _) rfl m (VQ.ext O Z)
 .rename_i aT;have Mn:x.tree.kind=36:=by rw[Z6]at h2 ⊢;omega
  obtain⟨_,z',g3,g4⟩:=T7 h3 Mn;obtain⟨z,g5,rfl⟩:=SO g3;rw[Q' g5];have mz:z∈x.kids:=by rw[g5];simp
  have O':=Dv mx;refine Fin.bind (p.at mz g4 Qe h a hb hs) (λt o I j2 j3 J O=>?_) Qe;refine Fin.bind (p.at Y X U I (a.ext j2) Q5 J) (λu v g Z k3 m k5=>?_) Qe;split
  .obtain⟨F,i2⟩:=CC (d:=d+1) (o:=o.n) (name:=x.text) (fx:=false) g k5;exact Fin.ok (F.less Qe) i2 rfl m (VQ.ext k5 i2)
  .exact Fin.raise (g.less Qe) (Ext.refl _) rfl m IR.2.1
def Zii{x:NT}(u:VH V b)(hw:x.wf .v)(y:x.tree.many<=1500)(h:Inv s (d+1))(a:FAt s sc fr)(hb:b<=s.steps)(hs:s.steps<=20000):Fin s d VQ (S' V x sc fr s):=by
 unfold S';split
 .dsimp only
  split;·exact Fin.ok (h.less Qe) (Ext.refl _) rfl hs (Vw _)
  .obtain⟨m,i2⟩:=h.near (Zne (n:=s.H.find sc x.text) (name:=x.text));exact Fin.ok m i2 rfl hs (Vw _)
 .split
  .rename_i hk;obtain⟨_,z',I,J⟩:=T7 hw QF;obtain⟨z,F,rfl⟩:=SO I;rw[Q' F];refine Fin.bind (u.at (by rw[F];simp) J y h a hb hs) (λt o p O U g X=>?_) Qe;split
   .obtain⟨m,i2⟩:=p.near (Zi1 (n:=o.n) (name:=x.text));simp only;split;·exact Fin.ok m i2 rfl g (Vw _)
    .split;·exact Fin.raise m i2 rfl g IR.2.1
     .exact Fin.ok m i2 rfl g (Vw _)
   .exact Fin.raise (p.less Qe) (Ext.refl _) rfl g IR.2.1
  .refine Fin.bind ((u x sc fr s (d+1) hw y h a hb hs).1) (λt o p O U g X=>?_) Qe;exact Fin.ok (p.less Qe) (Ext.refl _) rfl g (Vw _)
def Za5{m:Int}(h:Inv s d)(hs:s.steps<=20000):Fin s d VQ (Vp m s):=by
 unfold Vp;split;·exact Fin.raise h (Ext.refl _) rfl hs IR.2.2.1
 .exact Fin.ok h (Ext.refl _) rfl hs (Zhu Qe Qe)
def Zj7{k:Int}{x y:LVal}(h:Inv s d)(hs:s.steps<=20000):Fin s d VQ (Wc k x y s):=by
 unfold Wc;split;·exact Fin.ok h (Ext.refl _) rfl hs (Vw _)
 .split
  .split;·exact Fin.ok h (Ext.refl _) rfl hs (Vw _)
   .split;·exact Za5 h hs
    .split;·exact Za5 h hs
     .exact Za5 h hs
  .split;·exact Fin.ok h (Ext.refl _) rfl hs (Vw _)
   .split
    .dsimp only
     split;·exact Fin.raise h (Ext.refl _) rfl hs IR.2.2.1
     .exact Fin.ok h (Ext.refl _) rfl hs (Zei Qe)
    .exact Fin.raise h (Ext.refl _) rfl hs IR.2.1
def Zis(H:LHeap)(v:LVal):(U3 H v).size<=500:=by
 unfold U3;repeat' split
 all_goals decide
end
