import Derived.Test.YtkjdnecemhilpaaGreatDoorJ03
set_option maxRecDepth 100000
set_option maxHeartbeats 20000000
set_option linter.all false
namespace Go.Proofs.YtkjdnecemhilpaaGreatDoor
open Go Go.RowKit Tryz
def LHeap.setNames(H:LHeap)(m:Nat)(s:LScope)(l:List LBind):LHeap:={H with scopes:=H.scopes.set m {s with names:=l}}
def LHeap.write (H:LHeap) (n:Int) (name:kB) (v:LVal):LHeap×Int:=
 match H.scope? n with
 |none=>(H,7)
 |some s=>
   if s.object<0 then
    match s.idx name with
    |none=>(H,7)
    |some k=>
      match s.names[k]? with
      |none=>(H,7)
      |some b=>
        if b.ready=false then(H,6)
        else if b.kind=2 then(H,1)
        else if b.kind=3 then(H,5)
        else(H.setNames n.toNat s (s.names.set k {b with v:=v}),0)
   else if(H.get s.object name).isSome then H.put s.object name v false else(H,7)
section
variable {ρ:Nat->Option Role}{w:kV}{hb ho:Nat}{L:HL}{H:LHeap}
def Zmn{w1:kV}{m k g c:Nat}{s:LScope}{b:LBind}{vk vn:Int}{vs:kB}(h:HeapAt ρ w1 hb ho L H)(o:H.scopes[m]?=some s)(hp:s.names[k]?=some b)
 (hv:L.nv m=.slice (some ⟨g,0,none⟩) s.names.length c) :
 ∃ ρ' u, HeapAt ρ' (((w1.setCell ⟨g, k * 6 + 1, none⟩ (vI vk)).setCell ⟨g, k * 6 + 1 + 1, none⟩ (vI vn)).setCell ⟨g, k * 6 + 1 + 2, none⟩ (.string vs)) hb ho u (H.setNames m s (s.names.set k { b with v := ⟨vk, vn, vs⟩ })) ∧
   Fr ρ ρ' hb ho w1 (((w1.setCell ⟨g,k*6+1,none⟩ (vI vk)).setCell ⟨g,k*6+1+1,none⟩ (vI vn)).setCell ⟨g,k*6+1+2,none⟩ (.string vs)):=by
 have dw:=getElem?_lt o;obtain⟨F,p⟩:=h.scp m s o;have I:g≠L.sb m:=λe=>by
  exact Zvg
 rw[hv]at p;have hst:=Z8r (f:=LBind.cells) (m:=6) (λ_=>rfl) p hp (j:=1) Qe (x:=(vI vk)) (y:=(vI vn)) (z:=.string vs) (a':={b with v:=⟨vk,vn,vs⟩}) rfl;have far:∀b,b≠g->(((w1.setCell ⟨g,k*6+1,none⟩ (vI vk)).setCell ⟨g,k*6+1+1,none⟩ (vI vn)).setCell ⟨g,k*6+1+2,none⟩ (.string vs)).heap[b]?=w1.heap[b]?:=λb hb=>by
  exact Zxg
 refine h.setNames o (nv':=.slice (some ⟨g,0,none⟩) s.names.length c) (names':=s.names.set k {b with v:=⟨vk,vn,vs⟩}) ?_ ?_ Qm ?_ ?_ rfl rfl rfl;·rw[far _ (Ne.symm I),<-hv];exact F
 .simp only[List.length_set];exact hst
 .exact Zsk
 .intro O J;rw[hv];exact .inl J
def Zkk(h:HeapAt ρ w hb ho L H)(m:Nat)(s:LScope)(name:kB)(k:Nat)(b:LBind)(vk vn:Int)(vs:kB)(hm:H.scopes[m]?=some s)(aW:s.object<0)(hk:s.idx name=some k)(hp:s.names[k]?=some b)(hr:b.ready=false) :
 kC 126 #[.pointer (some ⟨hb,ho,none⟩),vI m,.string name,.agg #[vI vk,vI vn,.string vs]] w λe w'=>e=.returned (cL 6)/\
  ∃ρ' o,HeapAt ρ' w' hb ho o H/\Fr ρ ρ' hb ho w w':=by
 refine Wv ?_;intro cA dw aY h1 hob cN HC;rw[cN]at HC;rcases Z4 h.rowS with⟨dD,u⟩|⟨gs,cs,dD,I,y,J⟩;·omega
 unfold maxLen at y;refine TO ?_;intro aq;obtain⟨_,af⟩:=h.scp m s hm;rcases Z4 af with⟨hv,u⟩|⟨g,c,hv,O,F,U⟩;·omega
 unfold maxLen at F;obtain⟨pn,⟨pk,pm,ps⟩,uX,X⟩:=b;refine WJ ?_;intro ae bz HF HR HZ bE;rw[hk,hv]at bE;simp only[TM,Value.ownBlock,Option.map_some]at bE;obtain⟨HH,Y,Z,HV⟩:=gp h1 hm hp hv;simp only at hr;exact YD
def Zgh(h:HeapAt ρ w hb ho L H)(m:Nat)(s:LScope)(name:kB)(k:Nat)(b:LBind)(vk vn:Int)(vs:kB)(hm:H.scopes[m]?=some s)(aW:s.object<0)(hk:s.idx name=some k)(hp:s.names[k]?=some b)(hr:b.ready=true)(o:(b.kind==2)=true) :
 kC 126 #[.pointer (some ⟨hb,ho,none⟩),vI m,.string name,.agg #[vI vk,vI vn,.string vs]] w λe w'=>e=.returned (cL 1)/\
  ∃ρ' u,HeapAt ρ' w' hb ho u H/\Fr ρ ρ' hb ho w w':=by
 refine Wv ?_;intro cA dw aY h1 hob cN HC;rw[cN]at HC;rcases Z4 h.rowS with⟨dD,y⟩|⟨gs,cs,dD,J,F,O⟩;·omega
 unfold maxLen at F;refine TO ?_;intro aq;obtain⟨_,af⟩:=h.scp m s hm;rcases Z4 af with⟨hv,y⟩|⟨g,c,hv,U,I,X⟩;·omega
 unfold maxLen at I;obtain⟨pn,⟨pk,pm,ps⟩,uX,Y⟩:=b;refine WJ ?_;intro ae bz HF HR HZ bE;rw[hk,hv]at bE;simp only[TM,Value.ownBlock,Option.map_some]at bE;obtain⟨HH,Z,HP,HV⟩:=gp h1 hm hp hv;simp only at hr o;exact YD
def Zmj(h:HeapAt ρ w hb ho L H)(m:Nat)(s:LScope)(name:kB)(k:Nat)(b:LBind)(vk vn:Int)(vs:kB)(hm:H.scopes[m]?=some s)(aW:s.object<0)(hk:s.idx name=some k)(hp:s.names[k]?=some b)(hr:b.ready=true)(o:(b.kind==2)=false)(u:(b.kind==3)=true) :
 kC 126 #[.pointer (some ⟨hb,ho,none⟩),vI m,.string name,.agg #[vI vk,vI vn,.string vs]] w λe w'=>e=.returned (cL 5)/\
  ∃ρ' y,HeapAt ρ' w' hb ho y H/\Fr ρ ρ' hb ho w w':=by
 refine Wv ?_;intro cA dw aY h1 hob cN HC;rw[cN]at HC;rcases Z4 h.rowS with⟨dD,F⟩|⟨gs,cs,dD,O,I,U⟩;·omega
 unfold maxLen at I;refine TO ?_;intro aq;obtain⟨_,af⟩:=h.scp m s hm;rcases Z4 af with⟨hv,F⟩|⟨g,c,hv,X,J,Y⟩;·omega
 unfold maxLen at J;obtain⟨pn,⟨pk,pm,ps⟩,uX,Z⟩:=b;refine WJ ?_;intro ae bz HF HR HZ bE;rw[hk,hv]at bE;simp only[TM,Value.ownBlock,Option.map_some]at bE;obtain⟨HH,HM,HP,HV⟩:=gp h1 hm hp hv;simp only at hr o u;exact YD
def Zoz(h:HeapAt ρ w hb ho L H)(m:Nat)(s:LScope)(name:kB)(k:Nat)(b:LBind)(vk vn:Int)(vs:kB)(hm:H.scopes[m]?=some s)(aW:s.object<0)(hk:s.idx name=some k)(hp:s.names[k]?=some b)(hr:b.ready=true)(y:(b.kind==2)=false)(F:(b.kind==3)=false) :
 kC 126 #[.pointer (some ⟨hb,ho,none⟩),vI m,.string name,.agg #[vI vk,vI vn,.string vs]] w λe w'=>e=.returned (cL 0)/\
  ∃ρ' o,HeapAt ρ' w' hb ho o (H.setNames m s (s.names.set k {b with v:=⟨vk,vn,vs⟩}))/\Fr ρ ρ' hb ho w w':=by
 refine Wv ?_;intro cA dw aY h1 hob cN HC;rw[cN]at HC;rcases Z4 h.rowS with⟨dD,I⟩|⟨gs,cs,dD,aL,J,pK⟩;·omega
 unfold maxLen at J;refine TO ?_;intro aq;obtain⟨_,u⟩:=h.scp m s hm;rcases Z4 u with⟨hv,I⟩|⟨g,c,hv,h2,O,cX⟩;·omega
 unfold maxLen at O;obtain⟨pn,⟨pk,pm,ps⟩,U,ve⟩:=b;refine WJ ?_;intro ae bz HF HR HZ bE;rw[hk,hv]at bE;simp only[TM,Value.ownBlock,Option.map_some]at bE;obtain⟨HH,X,Y,Z⟩:=gp h1 hm hp hv;simp only at hr y F;subst hr;clear h h1 hob cN hm dD aq hk hp u hv ae bz;go_enter func126,ntmps126
 go_wp2_with fail
 refine U5 ?_;intro w1 q0 q1 q2 f0 f1 f2 hs d0 d1 d2 eK HB;go_wp2_with fail
 refine Zrx ?_;intro w2 ar fp r0 r1 r2 r3;have r4:=HR.o w2 fp 4 (vI U) rfl;have z1:=HZ.o w2 fp (k*6+1);have z2:=HZ.o w2 fp (k*6+1+1);have z3:=HZ.o w2 fp (k*6+1+2);refine Uy ?_;intro mr iq lY;have oa:=lh fp;have aP:=lh (HB.o.trans (ar.mono (Nat.le_of_lt hs)));clear ar fp q0 q1 q2 f0 f1 f2 d0 d1 d2;go_wp2;go_ret;refine⟨rfl,?_⟩;obtain⟨ρ',o,hA,hF⟩:=Zmn (vk:=vk) (vn:=vn) (vs:=vs) oa.o X.o Y.o Z.o;exact⟨ρ',o,hA,(Fr.of_below cA aP.o).trans hF⟩
def Zmp(h:HeapAt ρ w hb ho L H)(n:Int)(name:kB)(v:LVal)(U:∀(m:Nat) (o:LObj),H.objects[m]?=some o->o.props.length<1099511627776) :
 kC 126 #[.pointer (some ⟨hb,ho,none⟩),vI n,.string name,v.agg] w λe w'=>e=.returned (cL (H.write n name v).2)/\
  ∃ρ' X,HeapAt ρ' w' hb ho X (H.write n name v).1/\Fr ρ ρ' hb ho w w':=by
 have Y:=h.hbLt;obtain⟨vk,vn,vs⟩:=v;simp only[LVal.agg];have u:=h.below ((Y2 _ _).alloc (Y0 _) (.cells #[vI vk,vI vn,.string vs] 71));by_cases hq:H.has n name=true
 .obtain⟨s,hob,F⟩:∃s,H.scope? n=some s/\(if s.object<0 then(s.idx name).isSome else(H.get s.object name).isSome)=true:=by
   exact Zyp
  obtain⟨m,rfl,hm⟩:=LHeap.scope?_some hob;have dw:=getElem?_lt hm;by_cases aW:s.object<0
  ·rw [Y5 aW] at F;obtain ⟨k, hk⟩ := Option.isSome_iff_exists.1 F;obtain ⟨b, hp, _⟩ := LScope.idx_some hk;by_cases hr : b.ready = false
   .have hw:H.write m name ⟨vk,vn,vs⟩=(H,6):=by simp[LHeap.write,hob,aW,hk,hp,hr]
    rw[hw];exact Zkk h m s name k b vk vn vs hm aW hk hp hr
   .have y:b.ready=true:=by simpa using hr
    by_cases I:b.kind=2
    .have hw:H.write m name ⟨vk,vn,vs⟩=(H,1):=by simp[LHeap.write,hob,aW,hk,hp,y,I]
     rw[hw];exact Zgh h m s name k b vk vn vs hm aW hk hp y (by simp[I])
    .by_cases J:b.kind=3
     .have hw:H.write m name ⟨vk,vn,vs⟩=(H,5):=by simp[LHeap.write,hob,aW,hk,hp,y,J]
      rw[hw];exact Zmj h m s name k b vk vn vs hm aW hk hp y (by simp[I]) (by simp[J])
     .have hw:H.write m name ⟨vk,vn,vs⟩=(H.setNames m s (s.names.set k {b with v:=⟨vk,vn,vs⟩}),0):=by simp[LHeap.write,hob,aW,hk,hp,y,I,J]
      rw[hw];exact Zoz h m s name k b vk vn vs hm aW hk hp y (by simp[I]) (by simp[J])
  .rw[Y3 aW]at F;have hw:H.write m name ⟨vk,vn,vs⟩=H.put s.object name ⟨vk,vn,vs⟩ false:=by simp[LHeap.write,hob,aW,F]
   rw[hw];have HC:=lh (Vu u (m:Int) name);rw[hq]at HC;rcases Z4 h.rowS with⟨dD,hz⟩|⟨gs,cs,dD,aL,dp,pK⟩;·omega
   unfold maxLen at dp;refine TO ?_;intro aq;have HF:=lh aq;have O:=λw1 (hh:HeapAt ρ w1 hb ho L H)=>Zl1 hh s.object name ⟨vk,vn,vs⟩ false U;simp only[LVal.agg]at O;generalize cL (H.put s.object name ⟨vk,vn,vs⟩ false).2=er at O ⊢;have pW:=lh O;clear O;have HH:=lh u;clear h u hob F hm dD aq hq hw U;go_enter func126,ntmps126
   go_wp2_with fail
   refine U5 ?_;intro w1 q0 q1 q2 f0 f1 f2 hs d0 d1 d2 eK HB;go_wp2_with fail
   refine Z7 [0,2,4,6,8,10,12] [7,8] (λW=>vC W (L.sb m) 1 (vI s.object)/\vC W w.heap.size 0 (vI vk)/\vC W w.heap.size 1 (vI vn)/\vC W w.heap.size 2 (.string vs)) ⟨d2,q0,q1,q2⟩ λ_=>?_;refine dS ?_
   iterate 7
    refine dq ?_
   refine Z1 ?_;go_wp2_with fail
   refine(pW.o w1.drew eK.o.drew).mono ?_;rintro e w2⟨rfl,ρ',X,Z,hF⟩;have HA:=lh Z;have yT:=lh hF;clear Z hF;go_wp2;go_ret;exact⟨rfl,ρ',X,HA.o,(Fr.of_below Y HB.o.drew).trans yT.o⟩
 .have p:H.has n name=false:=by simpa using hq
  have hw:H.write n name ⟨vk,vn,vs⟩=(H,7):=by
   unfold LHeap.has at p;unfold LHeap.write;split at p;·rename_i hs;simp[hs]
   .rename_i s hs;simp only[hs];split at p
    .have :s.idx name=none:=by simpa using p
     rename_i aW;rw[Y5 aW,this]
    .rename_i aW;rw[Y3 aW];simp[p]
  rw[hw];have HC:=lh (Vu u n name);rw[p]at HC;have HH:=lh u;clear h u hq p hw U;go_enter func126,ntmps126
  go_wp2_with fail
  refine HC.o.mono ?_;rintro e w1⟨rfl,hB⟩;have HB:=lh hB;clear hB;go_wp2;go_ret;exact⟨rfl,ρ,L,HH.o.below HB.o,Fr.of_below Y (Xw HB.o)⟩
end
def Z7n(w:kV)(g:Addr)(name n s:kB)(k m o:Int)(rd:Bool)(hx:w.cell? g=some (.string name))(hb:g.block<w.heap.size) :
 kC 153 #[.agg #[.string n,vI k,vI m,.string s,vI o,.bool rd],.pointer (some g)] w λe w'=>e=.returned (.bool (Zh n name))/\kW w w':=by
 go_enter func153,ntmps153
 exact Zsc
def Zzy(w:kV)(bx:Addr)(name:kB)(hx:w.cell? bx=some (.string name))(hb:bx.block<w.heap.size)(v:Value)(l:List LBind)
 (af:w.ownsRow 0 185 6 v l.length (l.flatMap LBind.cells)) :
 kC 92 #[v,.func (.func 153) #[] #[.pointer (some bx)]] w λe w'=>e=.returned (vI (BV (l.findIdx? (LBind.is name))))/\kW w w':=by
 have ae:=λg hg i j a x=>SV (f:=LBind.cells) (m:=6) (λ_=>rfl) af (g:=g) hg (i:=i) (j:=j) (a:=a) (x:=x);rcases Z4 af with⟨hv,hz⟩|⟨g,c,hv,o,u,hg⟩;·exact AbZ
 .subst hv;have hc:=ae g rfl;clear af ae;obtain⟨n,hn⟩:=zX l.length
  rw[<-hn]at o ⊢;unfold maxLen at u;have HN:=lh hn;clear hn;go_enter func92,ntmps92
  go_wp2;go_loopw [5,8] (λ_ i wr=>∃k:Nat,i=(vI k)/\k<=n/\(∀j a,j<k->l[j]?=some a->LBind.is name a=false)/\kW w wr) (λ_ i _=>n-(intOf i).toNat)
  case atStart=>exact⟨0,rfl,by omega,λj a hj=>by omega,Y2 _ _⟩
  case round=>
   obtain⟨k,rfl,hk,dG,hB⟩:=hrel;have aG:n=l.length:=HN.o;by_cases I:k<n
   .have y:k<l.length:=by omega
    have dX:l[k]?=some l[k]:=Y6 y;generalize l[k]=b at dX;obtain⟨bn,⟨bk,bm,bs⟩,mp,kh⟩:=b;refine Abx ?_;intro c0 c1 c2 c3 c4 c5 mq du;have HG:=lh dX;have HO:=lh dG;clear dX dG hc hx aG;by_cases hq:Zh bn name=true
    .go_wp2_with (go_at_call 153;refine(Z7n _ bx name bn bs bk bm mp kh mq du).mono ?_;rintro e w1⟨rfl,aQ⟩)
     exact Zug
    .go_wp2_with (go_at_call 153;refine(Z7n _ bx name bn bs bk bm mp kh mq du).mono ?_;rintro e w1⟨rfl,aQ⟩)
     exact Aa0
   .have F:k=n:=by omega
    subst F;have HO:=lh dG;exact Abz
def Zkb{w:kV}{base:Nat}{e:TypeId}{g cap n:Nat}{l:List LBind}(h:w.ownsRow base e 6 (.slice (some ⟨g,0,none⟩) n cap) n (l.flatMap LBind.cells)){k:Nat}(hk:k<l.length)(b:LBind) :
 ((((((w.setCell ⟨g,k*6,none⟩ (.string b.name)).setCell ⟨g,k*6+1,none⟩ (vI b.v.kind)).setCell ⟨g,k*6+2,none⟩ (vI b.v.n)).setCell ⟨g,k*6+3,none⟩ (.string b.v.s)).setCell ⟨g,k*6+4,none⟩ (vI b.kind)).setCell ⟨g,k*6+5,none⟩ (.bool b.ready)).ownsRow base e 6 (.slice (some ⟨g,0,none⟩) n cap) n ((l.set k b).flatMap LBind.cells):=by
 have m:=((((((((((h.stored (k*6) (.string b.name)).1.stored (k*6+1) (vI b.v.kind)).1).stored (k*6+2) (vI b.v.n)).1).stored (k*6+3) (.string b.v.s)).1).stored (k*6+4) (vI b.kind)).1).stored (k*6+5) (.bool b.ready)).1;have:(l.set k b).flatMap LBind.cells=((((((l.flatMap LBind.cells).set (k*6) (.string b.name)).set (k*6+1) (vI b.v.kind)).set (k*6+2) (vI b.v.n)).set (k*6+3) (.string b.v.s)).set (k*6+4) (vI b.kind)).set (k*6+5) (.bool b.ready):=by
  clear h m;induction l generalizing k with
  |nil=>simp at hk
  |cons c l o=>
    cases k with
    |zero=>
      refine Zty ?_;rfl
    |succ k=>
      simp only[List.set_cons_succ,List.flatMap_cons];have e:(k+1)*6=(LBind.cells c).length+k*6:=by simp[LBind.cells];omega
      rw[e];simp only[Nat.add_assoc];rw[List.set_append_right _ _ Qe,List.set_append_right _ _ Qe,List.set_append_right _ _ Qe,List.set_append_right _ _ Qe,List.set_append_right _ _ Qe,List.set_append_right _ _ Qe];simp only[Nat.add_sub_cancel_left];rw[o Ru]
 rw[this];exact m
def Z72{w0 w:kV}{g o:Nat}(m:w0.grownBy w (some g))(a:Value):w0.grownBy (w.setCell ⟨g,o,none⟩ a) (some g):=
 ⟨m.os,m.tape,m.output,by rw[Yf];exact m.size,λb hb p=>(Y8 _ _ _ _ (λe=>p (by rw[e]))).trans (m.block b hb p)⟩
def Zg0{w0 w:kV}{g:Nat}(m:w0.grownBy w (some g))(k:Nat)(a b c d e f:Value) :
 w0.grownBy ((((((w.setCell ⟨g,k,none⟩ a).setCell ⟨g,k+1,none⟩ b).setCell ⟨g,k+2,none⟩ c).setCell ⟨g,k+3,none⟩ d).setCell ⟨g,k+4,none⟩ e).setCell ⟨g,k+5,none⟩ f) (some g):=
 Z72 (Z72 (Z72 (Z72 (Z72 (Z72 m a) b) c) d) e) f
def Z77{w0 w w':kV}{row:Option Nat}(g:w0.grownBy w row)(m:kW w w'):w0.grownBy w' row:=
 ⟨m.os.trans g.os,m.tape.trans g.tape,m.output.trans g.output,Y4 g.size m.size,λb hb o=>(m.block b (Y7 hb g.size)).trans (g.block b hb o)⟩
theorem Zec(w:kV)(row:Option Nat):w.grownBy w row:=⟨rfl,rfl,rfl,Y0 _,λ_ _ _=>rfl⟩
def Z69{α:Type}{f:α->List Value}{m:Nat}(hf:∀a,(f a).length=m)(l:List α)(i:Nat):(l.take i).flatMap f=(l.flatMap f).take (i*m):=by
 induction l generalizing i with
 |nil=>simp
 |cons a l g=>
   cases i with
   |zero=>simp
   |succ i=>
     simp only[List.take_succ_cons,List.flatMap_cons];rw[g,show(i+1)*m=(f a).length+i*m by rw[hf,Nat.succ_mul];omega,List.take_length_add_append]
def Zes{P:Program}{w:kV}{e t:TypeId}{m:Nat}{g cap:Nat}{α:Type}{f:α->List Value}{l:List α}(hf:∀a,(f a).length=m)(O:0<m)(z:Value)(ht:P.underlying t=some (.slice e))(U:∀w,(zeroValue e).run P w=.ok z w)(y:z.cells.size=m)
 (X:∀v∈z.cells.toList,v.oneCell'=true)(h:w.ownsRow 0 e m (.slice (some ⟨g,0,none⟩) l.length cap) l.length (l.flatMap f)){i:Nat}(hi:i<l.length)(Y:TypeId) :
 ∃w',(Builtin.clear_ #[t] Y #[.slice (some ⟨g,i*m,none⟩) (l.length-i) (cap-i)]).run P w=.ok (.tuple #[]) w'/\w'.ownsRow 0 e m (.slice (some ⟨g,0,none⟩) i cap) i ((l.take i).flatMap f)/\w.grownBy w' (some g):=by
 rcases h.2 with⟨o,_⟩|⟨g',yU,p,o,hb,F,Z,vg,u,nE⟩;·simp at o
 simp only[Value.slice.injEq,Option.some.injEq,Addr.mk.injEq,and_true,true_and]at o;obtain⟨rfl,rfl⟩:=o;have I:(Builtin.zeroCells z.cells (l.length-i)).toList.length=(l.length-i)*m:=by rw[Array.length_toList,size_zeroCells,y]
 have og:l.length*m<=cap*m:=Nat.mul_le_mul_right _ Z;have pX:(l.length-i)*m=l.length*m-i*m:=Nat.sub_mul ..;have DX:i*m<=l.length*m:=Nat.mul_le_mul_right _ Qe;have hst:=run_storeCells_at P g (i*m) e (Builtin.zeroCells z.cells (l.length-i)).toList 0 p w F (by rw[I,u];omega) (by
  intro v J;simp only[Builtin.zeroCells]at J;obtain⟨k,hk,rfl⟩:=List.getElem_of_mem J;simp only[Array.getElem_toList];rcases Nat.lt_or_ge (k %z.cells.size) z.cells.size with o|o;·exact X _ (by simp[o])
  .rw[y]at o;exact absurd (Nat.mod_lt k O) Qe)
 have fO:∃d,l.length-i=d+1:=⟨l.length-i-1,by omega⟩
 obtain⟨d,hd⟩:=fO;refine⟨w.setRow g (p.toList.take (i*m+0)++(Builtin.zeroCells z.cells (l.length-i)).toList++p.toList.drop (i*m+0+(Builtin.zeroCells z.cells (l.length-i)).toList.length)).toArray,?_,?_,?_⟩
 .rw[hd]at hst ⊢;simp[Builtin.clear_,run_underlying ht,U,hst]
 .refine⟨by rw[YC hf,List.length_take];congr 1;omega,.inr ⟨g,cap,_,rfl,Yh _,setRow_heap w g p _ e (0,0) F,by omega,vg,?_,?_⟩⟩
  .simp only[Nat.add_zero,List.size_toArray,List.length_append,List.length_take,List.length_drop,Array.length_toList,u];rw[<-Array.length_toList,I];omega
  .simp only[Nat.add_zero,List.append_assoc];rw[List.take_append_of_le_length (by simp only[List.length_take,Array.length_toList,u];omega),List.take_take,Nat.min_self];have e1:=Z69 hf l i;rw[e1,<-nE,List.take_take,Nat.min_eq_left DX]
 .exact⟨rfl,rfl,rfl,by simp,λk hk aH=>setRow_other w g k _ (λe=>aH (by rw[e]))⟩
def unnamed(name:kB)(l:List LBind):List LBind:=l.filter λb=>!LBind.is name b
theorem Zpk(w:kV):(zeroValue 185).run Tryz.prog w=.ok (.agg #[.string ⟨#[]⟩,vI 0,vI 0,.string ⟨#[]⟩,vI 0,.bool false]) w:=by kernel_rfl
def Z3d{name:kB}{l:List LBind}{j:Nat}{b:LBind}(h:l[j]?=some b):unnamed name (l.take (j+1))=unnamed name (l.take j)++(if LBind.is name b then[]else[b]):=by
 unfold unnamed;rw[List.take_add_one,h,Option.toList_some,List.filter_append];congr 1
 by_cases hb:LBind.is name b=true<;>simp[hb]
def Z94{name:kB}{l:List LBind}(h:∀(j:Nat) b,l[j]?=some b->LBind.is name b=false):unnamed name l=l:=by
 unfold unnamed;rw[List.filter_eq_self];intro b hb;obtain⟨j,g,rfl⟩:=List.getElem_of_mem hb;rw[h j _ (Y6 g)];rfl
def Zbo(w:kV)(y:Addr)(name:kB)(hx:w.cell? y=some (.string name))(hb:y.block<w.heap.size)(v:Value)(l:List LBind)(ig:v.ownBlock≠some y.block)
 (p:w.ownsRow 0 185 6 v l.length (l.flatMap LBind.cells)) :
 kC 152 #[v,.func (.func 153) #[] #[.pointer (some y)]] w λe w'=>∃v',e=.returned v'/\w'.ownsRow 0 185 6 v' (unnamed name l).length ((unnamed name l).flatMap LBind.cells)/\w.grownBy w' v.ownBlock/\v'.ownBlock=v.ownBlock:=by
 have HI:=lh (Zzy w y name hx hb v l p);rcases jf:l.findIdx? (LBind.is name)with _|J
 .rw[jf]at HI;have ao:unnamed name l=l:=by
   have:=List.findIdx?_eq_none_iff.1 jf;exact Z94 λj b hj=>this b (Yd hj)
  rw[ao];have HO:=lh p;clear p ao jf hx;go_enter func152,ntmps152
  go_wp2_with fail
  refine HI.o.mono ?_;rintro e w1⟨rfl,o⟩;simp only[BV];have HB:=lh o;clear o;go_wp2;go_ret;exact⟨v,rfl,Z3 HO.o λg hg=>HB.o.block g (HO.o.lt g hg).2,Z77 (Zec w v.ownBlock) HB.o,rfl⟩
 ·rw [jf] at HI;obtain ⟨oZ, yW, nF⟩ := List.findIdx?_eq_some_iff_getElem.1 jf;rcases Z4 p with ⟨rfl, hz⟩ | ⟨g, c, rfl, h1, h2, hg⟩;·omega
  unfold maxLen at h2;have gJ:g≠y.block:=λe=>ig (by rw[<-e];rfl);obtain⟨n,hn⟩:=zX l.length
  rw[<-hn]at h1 p HI ⊢;have LE:J<n:=Qe
  have yX:unnamed name (l.take J)=l.take J:=Z94 λj b hj=>by
   have pS:j<J:=by have:=getElem?_lt hj;simp at this;omega
   rw[List.getElem?_take,Y5 pS]at hj;obtain⟨iI,rfl⟩:=List.getElem?_eq_some_iff.1 hj;simpa using nF j pS
  have yY:unnamed name (l.take (J+1))=l.take J:=by
   rw[Z3d (Y6 oZ),yX,Y5 yW,List.append_nil]
  obtain⟨HN,HO,HU⟩:=ds hn p yY;clear p jf yW nF yX yY ig hn;have dV:((J:Int)== -1)=false:=beq_eq_false_iff_ne.2 Qe;go_enter func152,ntmps152
  go_wp2_with fail
  refine HI.o.mono ?_;rintro e w1⟨rfl,o⟩;simp only[BV];have HB:=lh o;clear o;go_wp2_with fail
  go_loopw [5,6,7] (λa b _ wr=>∃(i j:Nat) (M:List LBind),a=(vI i)/\b=(vI j)/\i<j/\j<=n/\M.length=n/\M.take i=unnamed name (l.take j)/\M.drop j=l.drop j/\wr.ownsRow 0 185 6 (.slice (some ⟨g,0,none⟩) n c) n (M.flatMap LBind.cells)/\w.grownBy wr (some g)) (λ_ b _ _=>n-(intOf b).toNat)
  case atStart=>
   refine⟨J,J+1,l,by go_num,by go_num,by omega,by omega,HN.o.symm,HU.o.symm,rfl,?_,Z77 (Zec w _) HB.o⟩;exact Z3 HO.o λX eQ=>HB.o.block X (HO.o.lt X eQ).2
  case round=>
   obtain⟨i,j,M,rfl,rfl,Cq,xO,hM,yZ,y6,p,u⟩:=hrel;have aG:n=l.length:=HN.o;have vh:wr.cell? y=some (.string name):=(Yb (u.block y.block hb (λe=>gJ (Yc e).symm))).trans hx;have LF:y.block<wr.heap.size:=Y7 hb u.size;have cX:g<wr.heap.size:=Y7 hg u.size;by_cases aA:j<n
   .have DY:M[j]?=l[j]?:=by
     have:=congrArg (λx:List LBind=>x[0]?) y6;simpa using this
    have lE:l[j]?=some l[j]:=Y6 Qe;have I:=DY.trans lE;have DZ:M.drop (j+1)=l.drop (j+1):=by
     have:=congrArg (List.drop 1) y6;simpa using this
    generalize l[j]=b at lE I;have Cs:M[i]?=some M[i]:=Y6 Qe;generalize M[i]=bi at Cs;obtain⟨F,⟨Y,Z,bs⟩,mp,kh⟩:=b;have O:=λk x j' b (du:M[k]?=some b)=>SV (f:=LBind.cells) (m:=6) (λ_=>rfl) p (g:=g) rfl (i:=k) (j:=j') (x:=x) du;have c0:wr.cell? ⟨g,j*6,none⟩=some (.string F):=O j (.string F) 0 _ I rfl;have c1:=O j (vI Y) 1 _ I rfl;have c2:=O j (vI Z) 2 _ I rfl;have c3:=O j (.string bs) 3 _ I rfl
    have c4:=O j (vI mp) 4 _ I rfl;have c5:=O j (.bool kh) 5 _ I rfl;have sm:(wr.alloc (.cells #[.string F,vI Y,vI Z,.string bs,vI mp,.bool kh] 185)).cell? y=some (.string name):=(Zb LF).trans vh;have hC:=Z7n _ y name F bs Y Z mp kh sm Qi;obtain⟨mL,oe,OT,Ij,Ik,Il,xP,LG⟩:=ld p u I lE DZ yZ hM Cs;by_cases hq:Zh F name=true
    .rw[hq]at hC;have HC:=lh hC;clear p u I lE DZ yZ hM Cs y6 DY O hC sm aG;go_wp2_with fail
     refine HC.o.mono ?_;rintro e w1⟨rfl,o⟩;have au:=lh (Xw o);clear o;go_wp2;go_roundw
     case rel=>
      refine⟨i,j+1,M,rfl,by go_num,by omega,by omega,xP.o,?_,Ik.o,?_,Z77 oe.o au.o⟩;·rw[Z3d Ij.o,Il.o,Y5 (show LBind.is name ⟨F,⟨Y,Z,bs⟩,mp,kh⟩=true from hq),List.append_nil]
      .exact Z3 mL.o λX eQ=>au.o.block X (mL.o.lt X eQ).2
     case measure=>simp[intOf];omega
    .have eB:Zh F name=false:=by simpa using hq
     rw[eB]at hC;have HC:=lh hC;have HR:=lh O;clear p u I lE DZ yZ hM Cs y6 DY O hC sm aG;go_wp2_with fail
     refine HC.o.mono ?_;rintro e w1⟨rfl,o⟩;have q0:=TA o 0 (.string F) rfl;have q1:=TA o 1 (vI Y) rfl;have q2:=TA o 2 (vI Z) rfl;have q3:=TA o 3 (.string bs) rfl;have q4:=TA o 4 (vI mp) rfl;have q5:=TA o 5 (.bool kh) rfl;have aQ:=Xw o;have U:w1.ownsRow 0 185 6 (.slice (some ⟨g,0,none⟩) n c) n (M.flatMap LBind.cells):=Z3 mL.o λX eQ=>aQ.block X (mL.o.lt X eQ).2;have ji:=λx j'=>SV (f:=LBind.cells) (m:=6) (λ_=>rfl) U (g:=g) rfl (i:=i) (j:=j') (x:=x) LG.o
     have e0:w1.cell? ⟨g,i*6,none⟩=some (.string bi.name):=ji _ 0 rfl;have e1:=ji _ 1 rfl;have e2:=ji _ 2 rfl;have e3:=ji _ 3 rfl;have e4:=ji _ 4 rfl;have e5:=ji _ 5 rfl;have f0:=U' U (g:=g) rfl (i*6);have f1:=U' U (g:=g) rfl (i*6+1);have f2:=U' U (g:=g) rfl (i*6+2);have f3:=U' U (g:=g) rfl (i*6+3);have f4:=U' U (g:=g) rfl (i*6+4);have f5:=U' U (g:=g) rfl (i*6+5);have au:=lh aQ;have LH:=lh U;clear o aQ U ji c0 c1 c2 c3 c4 c5 vh hx;have iO:i<n:=Qe
     go_wp2;go_roundw
     case rel=>
      refine⟨i+1,j+1,M.set i ⟨F,⟨Y,Z,bs⟩,mp,kh⟩,by go_num,by go_num,by omega,by omega,by simp[xP.o],?_,?_,?_,?_⟩
      .rw[Z3d Ij.o,Y3 (show¬LBind.is name ⟨F,⟨Y,Z,bs⟩,mp,kh⟩=true from hq),<-Il.o,List.take_add_one,List.getElem?_set_self (by rw[xP.o];omega),List.take_set_of_le (Y0 _)];rfl
      .rw[List.drop_set_of_lt Qe];exact Ik.o
      .exact Zkb LH.o (by rw[xP.o];omega) ⟨F,⟨Y,Z,bs⟩,mp,kh⟩
      .exact Zg0 (Z77 oe.o au.o) _ _ _ _ _ _ _
     case measure=>simp[intOf];omega
   .have D2:j=n:=by omega
    subst D2;have gd:=Zes (P:=Tryz.prog) (f:=LBind.cells) (m:=6) (l:=M) (t:=139) (g:=g) (cap:=c) (w:=wr) (λ_=>rfl) Qg _ underlying139 Zpk rfl (by intro v hv;simp[Value.cells]at hv;rcases hv with rfl|rfl|rfl|rfl|rfl<;>rfl) (by rw[hM];exact p) (i:=i) Qe 0;rw[hM]at gd;obtain⟨w2,iv,aK,oh⟩:=gd;have D3:M.take i=unnamed name l:=by rw[yZ,Ye Qe]
    have Im:(unnamed name l).length=i:=by rw[<-D3,List.length_take];omega
    rw[D3]at aK;obtain⟨mL,oe,xP⟩:=ds aK (show w.grownBy w2 (some g)from⟨oh.os.trans u.os,oh.tape.trans u.tape,oh.output.trans u.output,Y4 u.size oh.size,λb h1 h2=>(oh.block b (Y7 h1 u.size) h2).trans (u.block b h1 h2)⟩) Im;clear p u yZ hM y6 aK oh D3 Im aG hx vh;have OU:i<c:=Qe
    go_wp2;go_ret;exact⟨_,rfl,by rw[xP.o];exact mL.o,oe.o,rfl⟩
def Z9a{P:Program}{w:kV}{ah:Array Oper}{X:List Oper}{o:Oper}{a:Act}{Q:Exit->Act->kV->Prop}(LI:o.guard=none)(s x:Operand)(t:TypeId)
 (ho:o.op=.call {callee:=.builtin .append,args:=#[s,x],argTypes:=#[t,t]})
 (e:TypeId)(i:TypeInfo)(m:Nat)(ht:P.underlying t=some (.slice e))(hi:P.info? e=some i)(y7:i.size=m)
 (g cap k:Nat){α:Type}(f:α->List Value)(l:List α)(hf:∀a,(f a).length=m)(h1:∀a,∀v∈f a,v.oneCell'=true)
 (Y:w.ownsRow 0 e m (.slice (some ⟨g,0,none⟩) l.length cap) l.length (l.flatMap f))(hk:k<l.length)
 (hs:a.eval s=.slice (some ⟨g,0,none⟩) k cap)(I:Addr)(c:Nat)(hx:a.eval x=.slice (some I) (l.length-(k+1)) c)(LJ:k+1<l.length->I=⟨g,(k+1)*m,none⟩)
 (h:∀w',w'.ownsRow 0 e m (.slice (some ⟨g,0,none⟩) l.length cap) l.length ((l.take k++l.drop (k+1)++l.drop (l.length-1)).flatMap f)->w.grownBy w' (some g)->wpList P ah Q X (a.put o.dst (.slice (some ⟨g,0,none⟩) (k+(l.length-(k+1))) cap)) w') :
 wpList P ah Q (o::X) a w:=by
 refine wpList_plain LI λK hK=>?_;rcases Y.2 with⟨F,_⟩|⟨g',yU,p,F,hb,Z,yV,vg,J,nE⟩;·simp at F
 simp only[Value.slice.injEq,Option.some.injEq,Addr.mk.injEq,and_true,true_and]at F;obtain⟨rfl,rfl⟩:=F;subst y7;have og:l.length*i.size<=cap*i.size:=Nat.mul_le_mul_right _ yV;have y:((l.drop (k+1)).flatMap f).length=(l.length-(k+1))*i.size:=by rw[YC hf,List.length_drop]
 have LK:k*i.size+(l.length-(k+1))*i.size+i.size=l.length*i.size:=by
  rw[<-Nat.add_mul,<-Nat.succ_mul];congr 1;omega
 have hr:=run_append_room (P:=P) w t o.type e i ht hi g k cap p Z I (l.length-(k+1)) c ((l.drop (k+1)).flatMap f) y (by
  intro j u O;have hj:j<(l.length-(k+1))*i.size:=by rw[<-y];exact(List.getElem?_eq_some_iff.1 O).1
  have aA:k+1<l.length:=by
   rcases Nat.lt_or_ge (k+1) l.length with h|h;·exact h
   .rw[show l.length-(k+1)=0 by omega]at hj;omega
  rw[LJ aA];have e1:(⟨g,(k+1)*i.size,none⟩:Addr).add j=⟨g,(k+1)*i.size+j,none⟩:=by unfold Addr.add;split<;>simp_all
  rw[e1,Y.cellAt ((k+1)*i.size+j) (by
   have:(k+1)*i.size+(l.length-(k+1))*i.size=l.length*i.size:=Si
   omega)]
  have e2:(l.drop (k+1)).flatMap f=(l.flatMap f).drop ((k+1)*i.size):=by
   have:=Z69 hf l (k+1);have U:l.flatMap f=(l.take (k+1)).flatMap f++(l.drop (k+1)).flatMap f:=Rw
   rw[U,List.drop_left' RF]
  rw[e2,List.getElem?_drop]at O;exact O) (by
  intro v hv;obtain⟨a',_,ha⟩:=List.mem_flatMap.1 hv;exact h1 a' v ha) Qe (by rw[y,J];omega)
 unfold Oper.wp execOp;simp only[ho,resolve,invoke,builtin,Sem.run_bind,Sem.run_pure,Result.andThen_ok,List.map_toArray,List.map_cons,List.map_nil,hs,hx,hr];refine hK _ _ (h _ ⟨?_,.inr ⟨g,cap,_,rfl,Yh _,setRow_heap w g p _ e (0,0) Z,yV,vg,?_,?_⟩⟩ ⟨rfl,rfl,rfl,by simp,λk' sn aH=>setRow_other w g k' _ (λe=>aH (by rw[e]))⟩);·rw[YC hf];congr 1;simp;omega
 .simp only[List.size_toArray,List.length_append,List.length_take,List.length_drop,Array.length_toList,J,y];omega
 .rw[y];have gd:p.toList.length=cap*i.size:=by rw[Array.length_toList,J]
  have d1:p.toList=l.flatMap f++p.toList.drop (l.length*i.size):=by rw[<-nE,List.take_append_drop]
  have t1:p.toList.take (k*i.size)=(l.take k).flatMap f:=by
   rw[Z69 hf,<-nE,List.take_take,Nat.min_eq_left (Nat.mul_le_mul_right _ Qe)]
  have t2:(p.toList.drop (k*i.size+(l.length-(k+1))*i.size)).take i.size=(l.drop (l.length-1)).flatMap f:=by
   have e3:k*i.size+(l.length-(k+1))*i.size=(l.length-1)*i.size:=Si
   have U:l.flatMap f=(l.take (l.length-1)).flatMap f++(l.drop (l.length-1)).flatMap f:=Rw
   rw[e3,d1,U,List.append_assoc,List.drop_left' RF,List.take_left' (by rw[YC hf,List.length_drop,show l.length-(l.length-1)=1 by omega,Nat.one_mul])]
  rw[t1];simp only[List.flatMap_append];rw[List.take_append,Ye (by simp only[List.length_append,YC hf,List.length_take,List.length_drop];rw[Nat.min_eq_left Qe];omega)];congr 1
  rw[<-t2];congr 1
  simp only[List.length_append,YC hf,List.length_take,List.length_drop];rw[Nat.min_eq_left Qe];omega
theorem Zoa(w:kV):(zeroValue 134).run Tryz.prog w=.ok (.agg #[.string ⟨#[]⟩,vI 0,vI 0,.string ⟨#[]⟩,.bool false]) w:=by kernel_rfl
def Zke(w:kV)(g c k:Nat)(l:List LProp)(hk:k<l.length)(I:w.ownsRow 0 134 5 (.slice (some ⟨g,0,none⟩) l.length c) l.length (l.flatMap LProp.cells)) :
 kC 154 #[.slice (some ⟨g,0,none⟩) l.length c,vI k,vI (k+1)] w λe w'=>e=.returned (.slice (some ⟨g,0,none⟩) (l.length-1) c)/\w'.ownsRow 0 134 5 (.slice (some ⟨g,0,none⟩) (l.length-1) c) (l.length-1) ((l.eraseIdx k).flatMap LProp.cells)/\w.grownBy w' (some g):=by
 obtain⟨i0,hi,aC,O,bJ⟩:=info_parts MO;obtain⟨h1,h2⟩:l.length<=c/\c<=maxLen:=by
  rcases Z4 I with⟨hv,_⟩|⟨g',c',hv,h1,h2,_⟩;·cases hv
  .cases hv;exact⟨h1,h2⟩
 unfold maxLen at h2;obtain⟨n,hn⟩:∃n,l.length=n+1:=⟨l.length-1,by omega⟩
 have J:=I;rw[hn]at J h1 hk ⊢;simp only[Nat.add_sub_cancel];obtain⟨U,OV,p⟩:=ds I J hn;clear I J hn;have aH:((k:Int)==(k:Int)+1)=false:=beq_eq_false_iff_ne.2 Qe;have y8:k<c:=Qe
 have yV:n<c:=Qe
 have y9:k<=c:=Qe
 have LL:k<=n:=Qe
 have X:∀w1:kV,w1.ownsRow 0 134 5 (.slice (some ⟨g,0,none⟩) l.length c) l.length ((l.take k++l.drop (k+1)++l.drop (l.length-1)).flatMap LProp.cells)->
  ∃w2,(Builtin.clear_ #[127] 0 #[.slice (some ⟨g,n*5,none⟩) 1 (c-n)]).run Tryz.prog w1=.ok (.tuple #[]) w2/\w2.ownsRow 0 134 5 (.slice (some ⟨g,0,none⟩) n c) n ((l.eraseIdx k).flatMap LProp.cells)/\w1.grownBy w2 (some g):=by
  intro w1 ho;have Y:(l.take k++l.drop (k+1)++l.drop (l.length-1)).length=n+1:=by have:=p.o;simp;omega
  have DW:w1.ownsRow 0 134 5 (.slice (some ⟨g,0,none⟩) (n+1) c) (n+1) ((l.take k++l.drop (k+1)++l.drop (l.length-1)).flatMap LProp.cells):=by
   have:=p.o;rw[this]at ho ⊢;exact ho
  have:=Zes (P:=Tryz.prog) (f:=LProp.cells) (m:=5) (l:=l.take k++l.drop (k+1)++l.drop (l.length-1)) (t:=127) (g:=g) (cap:=c) (w:=w1) (λ_=>rfl) Qg _ underlying127 Zoa rfl (by intro v hv;simp[Value.cells]at hv;rcases hv with rfl|rfl|rfl|rfl<;>rfl) (by rw[Y];exact DW) (i:=n) Qe 0;rw[Y,Nat.add_sub_cancel_left]at this;obtain⟨w2,e1,Z,e3⟩:=this;have DN:(l.take k++l.drop (k+1)).length=n:=by have:=p.o;simp;omega
  rw[List.take_left' DN,<-List.eraseIdx_eq_take_drop_succ]at Z;exact⟨w2,e1,Z,e3⟩
 have In:=lh X;clear X;have bY:k+(n-k)=n:=Qe
 have bN:n+1-(k+1)=n-k:=Qe
 have Ct:=lh bY;have jX:=lh bN;clear bY bN;have oZ:(0:Int)<=(k:Int)+1:=Qe
 rcases Nat.lt_or_ge (k+1) c with hc|hc
 .have LM:¬c=k+1:=by omega
  have LN:k+1<=c:=Qe
  go_enter func154,ntmps154
  go_wp2_with fail
  refine Z7 [0,2,4,6,8,10] [6,7] (λ_=>True) trivial λ_=>?_;refine dS ?_
  iterate 6
   refine dq ?_
  refine Z1 ?_;refine Z9a rfl (.tmp 22) (.tmp 25) 127 rfl 134 i0 5 underlying127 hi O g c k LProp.cells l (λ_=>rfl) ?_ U.o.drew (by rw[p.o];omega) Qt ⟨g,(k+1)*5,none⟩ (c-(k+1)) ?_ (λ_=>rfl) ?_;·exact XB
  .rw[p.o,jX.o];rfl
  intro w1 ho u;obtain⟨w2,iv,y,F⟩:=In.o w1 ho;obtain⟨mL,oe,HG⟩:=ds y F u;clear ho y u F;rw[p.o,jX.o,Ct.o];exact AbK
 .obtain rfl:n=k:=by omega
  obtain rfl:c=n+1:=by omega
  have hI:(n:Int)<=(n:Int)+1:=Qe
  go_enter func154,ntmps154
  go_wp2_with fail
  refine Z7 [0,2,4,6,8,10] [6,7] (λ_=>True) trivial λ_=>?_;refine dS ?_
  iterate 6
   refine dq ?_
  refine Z1 ?_;refine Z9a rfl (.tmp 22) (.tmp 25) 127 rfl 134 i0 5 underlying127 hi O g (n+1) n LProp.cells l (λ_=>rfl) ?_ U.o.drew (by rw[p.o];omega) Qt ⟨g,0,none⟩ 0 ?_ (λh=>by rw[p.o]at h;omega) ?_;·exact XB
  .rw[p.o,Nat.sub_self];rfl
  intro w1 ho u;obtain⟨w2,iv,y,F⟩:=In.o w1 ho;obtain⟨mL,oe,HG⟩:=ds y F u;clear ho y u F;rw[p.o,Nat.sub_self,Nat.add_zero];simp only[Nat.add_sub_cancel_left]at iv;exact AbK
def LHeap.cut(H:LHeap)(n:Int)(name:kB):LHeap×Bool:=
 match H.object? n with
 |none=>(H,true)
 |some o=>
   match o.idx name with
   |none=>(H,true)
   |some k=>
     match o.props[k]? with
     |none=>(H,true)
     |some p=>if p.fixed then(H,false)else({H with objects:=H.objects.set n.toNat {o with props:=o.props.eraseIdx k}},true)
def LHeap.drop (H:LHeap) (n:Int) (name:kB):LHeap×Bool:=
 match H.scope? n with
 |none=>(H,true)
 |some s=>
   if s.object<0 then
    match s.idx name with
    |none=>(H,true)
    |some k=>
      match s.names[k]? with
      |none=>(H,true)
      |some b=>if b.kind=4 then(H.setNames n.toNat s (unnamed name s.names),true)else(H,false)
   else if(H.get s.object name).isSome then H.cut s.object name else(H,true)
section
variable {ρ:Nat->Option Role}{w:kV}{hb ho:Nat}{L:HL}{H:LHeap}
def Zv1{w1 w2:kV}{m k g c:Nat}{o:LObj}(h:HeapAt ρ w1 hb ho L H)(p:H.objects[m]?=some o)(hk:k<o.props.length)
 (hv:L.pv m=.slice (some ⟨g,0,none⟩) o.props.length c)
 (O:w2.ownsRow 0 134 5 (.slice (some ⟨g,0,none⟩) (o.props.length-1) c) (o.props.length-1) ((o.props.eraseIdx k).flatMap LProp.cells))(u:w1.grownBy w2 (some g)) :
 ∃ ρ' U, HeapAt ρ' (w2.setCell ⟨L.ob m, 0, none⟩ (.slice (some ⟨g, 0, none⟩) (o.props.length - 1) c)) hb ho U { H with objects := H.objects.set m { o with props := o.props.eraseIdx k } } ∧
   Fr ρ ρ' hb ho w1 (w2.setCell ⟨L.ob m,0,none⟩ (.slice (some ⟨g,0,none⟩) (o.props.length-1) c)):=by
 have dw:=getElem?_lt p;obtain⟨ac,_⟩:=h.obj m o p;have y:L.ob m<w1.heap.size:=(Y1.1 ac).1;have F:g≠L.ob m:=λe=>by
  exact Zvy
 have X:w1.cell? ⟨L.ob m,0,none⟩=some (L.pv m):=Qk
 obtain⟨k1,k2,k3,Y,Z,k6,k7,k8,k9,jF⟩:=Z4d (.slice (some ⟨g,0,none⟩) (o.props.length-1) c) (Y2 w1.heap.size w1) u y (λe=>F (Yc e)) X;have jh:w2.heap[L.ob m]?=some (.cells #[L.pv m,vI o.code] 129 (0,0)):=
  (u.block _ y (λe=>F (Yc e).symm)).trans ac
 have aG:(o.props.eraseIdx k).length=o.props.length-1:=by rw[List.length_eraseIdx,Y5 hk]
 refine h.setProps p (nv':=.slice (some ⟨g,0,none⟩) (o.props.length-1) c) (props':=o.props.eraseIdx k) ?_ ?_ k7 ?_ ?_ k8 k9 jF;·exact Zk _ jh
 .rw[aG];exact Z3 O λI eQ=>Z I QK
 .intro b h1 h2 J;rw[hv]at J;exact Y b h1 h2 J
 .intro I eQ;rw[hv];exact .inl eQ
def Zo5{w1 w2:kV}{m:Nat}{s:LScope}{g:Value}{l:List LBind}(h:HeapAt ρ w1 hb ho L H)(o:H.scopes[m]?=some s)
 (X:w2.ownsRow 0 185 6 g l.length (l.flatMap LBind.cells))(y:w1.grownBy w2 (L.nv m).ownBlock)(F:g.ownBlock=(L.nv m).ownBlock) :
 ∃ρ' Y,HeapAt ρ' (w2.setCell ⟨L.sb m,2,none⟩ g) hb ho Y (H.setNames m s l)/\Fr ρ ρ' hb ho w1 (w2.setCell ⟨L.sb m,2,none⟩ g):=by
 have I:=getElem?_lt o;obtain⟨ac,_⟩:=h.scp m s o;have J:L.sb m<w1.heap.size:=(Y1.1 ac).1;have p:(L.nv m).ownBlock≠some (L.sb m):=λe=>by
  have O:=h.rnv m _ I e;rw[h.rsb m I]at O;cases O
 have Z:w1.cell? ⟨L.sb m,2,none⟩=some (L.nv m):=Qk
 obtain⟨k1,k2,k3,k4,k5,k6,k7,k8,k9,jF⟩:=Z4d g (Y2 w1.heap.size w1) y J p Z;have jh:w2.heap[L.sb m]?=some (.cells #[vI s.outer,vI s.object,L.nv m] 141 (0,0)):=
  (y.block _ J (λe=>p e.symm)).trans ac
 refine h.setNames o (nv':=g) (names':=l) ?_ ?_ k7 ?_ ?_ k8 k9 jF;·exact Zk _ jh
 .exact Z3 X λU u=>k5 U (λe=>p (by rw[<-F,u,e]))
 .exact k4
 .intro U u;exact .inl (by rw[<-F];exact u)
def Zn2(h:HeapAt ρ w hb ho L H)(n:Int)(name:kB) :
 kC 141 #[.pointer (some ⟨hb,ho,none⟩),vI n,.string name] w λe w'=>e=.returned (.bool (H.cut n name).2)/\
  ∃ρ' L',HeapAt ρ' w' hb ho L' (H.cut n name).1/\Fr ρ ρ' hb ho w w':=by
 have cA:=h.hbLt;rcases hob:H.object? n with _|o
 .have O:=lh (Z87 h n hob);have hd:H.cut n name=(H,true):=by simp[LHeap.cut,hob]
  rw[hd];have F:=lh h;clear h hob hd;go_enter func141,ntmps141
  go_wp2_with fail
  refine O.o.mono ?_;rintro e w1⟨rfl,rfl⟩;go_wp2;go_ret;exact⟨rfl,ρ,L,F.o,Fr.refl _ _ _ _⟩
 .obtain⟨m,rfl,I⟩:=LHeap.object?_some hob;have U:=getElem?_lt I;have O:=lh (Z70 h m U);have HF:=lh (Zd8 h m o I name);rcases hk:o.idx name with _|k
  .have hd:H.cut m name=(H,true):=by simp[LHeap.cut,hob,hk]
   rw[hd];rw[hk]at HF;have F:=lh h;clear h hob hd I hk;go_enter func141,ntmps141
   go_wp2_with fail
   refine O.o.mono ?_;rintro e w1⟨rfl,rfl⟩;go_wp2_with fail
   refine Znj ?_;intro w1 hB;have J:=lh hB;clear hB;go_wp2;go_ret;exact⟨rfl,ρ,L,F.o.below J.o,Fr.of_below cA J.o⟩
  .obtain⟨p,hp,_⟩:=LObj.idx_some hk;have aY:=getElem?_lt hp;rw[hk]at HF;obtain⟨pV,iJ⟩:=h.obj m o I;rcases Z4 iJ with⟨hv,hz⟩|⟨g,c,hv,h2,h3,cX⟩;·omega
   unfold maxLen at h3;obtain⟨pn,⟨pk,pm,ps⟩,X⟩:=p;have hd:H.cut m name=if X then(H,false)else({H with objects:=H.objects.set m {o with props:=o.props.eraseIdx k}},true):=by simp[LHeap.cut,hob,hk,hp]
   rw[hd];obtain⟨F,HM,HV,HP⟩:=gp h I hv hp;clear h hob hd I hk hp pV iJ hv;have aq:∀w1,HeapAt ρ w1 hb ho L H->vC w1 (L.ob m) 0 (.slice (some ⟨g,0,none⟩) o.props.length c)/\w1.frozen? ⟨L.ob m,0,none⟩=false/\w1.cell? ⟨g,k*5+4,none⟩=some (.bool X)/\w1.ownsRow 0 134 5 (.slice (some ⟨g,0,none⟩) o.props.length c) o.props.length (o.props.flatMap LProp.cells):=λw1 hh=>by
    obtain⟨ac,af⟩:=hh.obj m o HM.o;have ae:=SV (f:=LProp.cells) (m:=5) (λ_=>rfl) af (g:=g) Rf (i:=k) (j:=4) (x:=.bool X) HP.o rfl;rw[HV.o]at af ac;exact⟨by simp[vC,World.cell?,ac],by simp[World.frozen?,ac],ae,af⟩
   have dW:=lh aq;clear aq;cases X
   .simp only[Bool.false_eq_true,if_false];go_enter func141,ntmps141
    go_wp2_with fail
    refine O.o.mono ?_;rintro e w1⟨rfl,rfl⟩;go_wp2_with fail
    refine Znj ?_;intro w1 hB;have u:=F.o.below hB;obtain⟨d0,z0,d1,Y⟩:=dW.o w1 u;obtain⟨HD,y,J⟩:=ds (Zke w1 g c k o.props aY Y) u hB;clear hB u Y;go_wp2_with fail
    refine HD.o.mono ?_;rintro e w2⟨rfl,aK,Z⟩;have jJ:g≠L.ob m:=λe=>by
     have h1:=y.o.rpv m g U Rf;rw[e,y.o.rob m U]at h1;cases h1
    have zb:=y.o.live (L.ob m) (by rw[y.o.rob m U];simp);have d2:vC w2 (L.ob m) 0 (.slice (some ⟨g,0,none⟩) o.props.length c):=(Yb (Z.block (L.ob m) zb (λe=>jJ (Yc e).symm))).trans d0;have z2:w2.frozen? ⟨L.ob m,0,none⟩=false:=(Yn (Z.block (L.ob m) zb (λe=>jJ (Yc e).symm))).trans z0;have mL:=lh aK;have oe:=lh Z;clear aK Z d0 d1 z0;go_wp2;go_ret;refine⟨rfl,?_⟩;obtain⟨ρ',L',hA,hF⟩:=Zv1 y.o HM.o aY HV.o mL.o oe.o
    exact⟨ρ',L',hA,(Fr.of_below cA J.o).trans hF⟩
   .simp only[if_true];go_enter func141,ntmps141
    go_wp2_with fail
    refine O.o.mono ?_;rintro e w1⟨rfl,rfl⟩;go_wp2_with fail
    refine Znj ?_;intro w1 hB;have u:=F.o.below hB;obtain⟨d0,z0,d1,Y⟩:=dW.o w1 u;have y:=lh u;have J:=lh hB;clear hB u Y;go_wp2;go_ret;exact⟨rfl,ρ,L,y.o,Fr.of_below cA J.o⟩
def Zmb{w w1:kV}{s:kB}{T:TypeId}(g:Below (w.alloc (.cells #[.string s] T)).heap.size (w.alloc (.cells #[.string s] T)) w1) :
 vC w1 w.heap.size 0 (.string s)/\w.heap.size<w1.heap.size/\kW w w1:=
 ⟨TA g 0 _ rfl,Z5s g,Xw g⟩
def Zpq(h:HeapAt ρ w hb ho L H)(n:Int)(name:kB) :
 kC 140 #[.pointer (some ⟨hb,ho,none⟩),vI n,.string name] w λe w'=>e=.returned (.bool (H.drop n name).2)/\
  ∃ρ' U,HeapAt ρ' w' hb ho U (H.drop n name).1/\Fr ρ ρ' hb ho w w':=by
 have cA:=h.hbLt;have u:=h.below ((Y2 _ _).alloc (Y0 _) (.cells #[.string name] 9));have F:kW w (w.alloc (.cells #[.string name] 9)):=(Y2 _ _).alloc (Y0 _) _;rcases hob:H.scope? n with _|s
 .have HC:=lh (WI u n hob);have hd:H.drop n name=(H,true):=by simp[LHeap.drop,hob]
  rw[hd];have HH:=lh u;have HB:=lh F;clear h u hob hd F;go_enter func140,ntmps140
  exact TN
 obtain⟨m,rfl,hm⟩:=LHeap.scope?_some hob;have dw:=getElem?_lt hm;have HC:=lh (UY u m dw);have HA:=lh (Vu u (m:Int) name);have X:=has_eq (name:=name) hob;have aq:∀w1,HeapAt ρ w1 hb ho L H->vC w1 (L.sb m) 1 (vI s.object)/\vC w1 (L.sb m) 2 (L.nv m)/\w1.frozen? ⟨L.sb m,2,none⟩=false/\L.sb m<w1.heap.size/\w1.ownsRow 0 185 6 (L.nv m) s.names.length (s.names.flatMap LBind.cells):=λw1 hh=>by
  obtain⟨Z,af⟩:=hh.scp m s hm;exact⟨by simp[vC,World.cell?,Z],by simp[vC,World.cell?,Z],by simp[World.frozen?,Z],(Y1.1 Z).1,af⟩
 have HF:=lh aq;have HM:=lh hm;have dl:=F;clear aq;by_cases hq:H.has (m:Int) name=true
 ·rw [hq] at HA;rw [X] at hq;by_cases aW : s.object < 0
  .rw[Y5 aW]at hq;obtain⟨k,hk⟩:=Option.isSome_iff_exists.1 hq;obtain⟨b,hp,_⟩:=LScope.idx_some hk;have aY:=getElem?_lt hp;obtain⟨_,iJ⟩:=h.scp m s hm;rcases Z4 iJ with⟨hv,hz⟩|⟨g,c,hv,h2,h3,cX⟩;·omega
   have hd:H.drop m name=if b.kind=4 then(H.setNames m s (unnamed name s.names),true)else(H,false):=by simp[LHeap.drop,hob,aW,hk,hp]
   rw[hd];have bE:=lh (λw1 (hh:HeapAt ρ w1 hb ho L H)=>Z6v hh m s hm name);rw[hk,hv]at bE;simp only[TM,Value.ownBlock,Option.map_some]at bE;refine X9 ?_;intro ae;have Cj:g<w.heap.size:=cX;obtain⟨HR,HH,HV,HB⟩:=gp ae u hv F;clear h u hob X hm F dl hq hk hp iJ hv ae hd;by_cases J:b.kind=4
   .have D4:(b.kind !=4)=false:=by simp[J]
    rw[Y5 J];clear J;obtain⟨bn,bv,bk,br⟩:=b;simp only at D4;go_enter func140,ntmps140
    go_wp2_with fail
    refine HC.o.mono ?_;rintro e w1⟨rfl,rfl⟩;go_wp2_with fail
    refine Zru ?_;intro w1 q0 hs d1 d2 z2 aM eK au;go_wp2_with fail
    refine(bE.o w1 eK.o).mono ?_;rintro e w2⟨rfl,y⟩;have I:=eK.o.below y;obtain⟨Io,Cu,rL,zc,mN⟩:=HF.o w2 I;have r4:=HR.o w2 I 4 (vI bk) rfl;have mr:=(y.cell (p:=⟨w.heap.size,0,none⟩) hs).trans q0;have dT:=Y7 hs y.size;have D5:=Zbo w2 ⟨w.heap.size,0,none⟩ name mr dT (L.nv m) s.names (by rw[HV.o];simp only[Value.ownBlock,ne_eq,Option.some.injEq];omega) mN;rw[HV.o]at D5 Cu;obtain⟨HD,Y,aP⟩:=ds D5 I (au.o.trans (y.mono (Nat.le_of_lt hs)))
    clear y I mN D5 q0 d1 d2 z2 Io mr;go_wp2_with fail
    refine HD.o.mono ?_;rintro e w3⟨v',rfl,pY,lF,Ip⟩;have jJ:g≠L.sb m:=λe=>by
     have u:=Y.o.rnv m g dw Rf;rw[e,Y.o.rsb m dw]at u;cases u
    have d3:vC w3 (L.sb m) 2 (.slice (some ⟨g,0,none⟩) s.names.length c):=(Yb (lF.block (L.sb m) zc (λe=>jJ (Yc e).symm))).trans Cu;have z3:w3.frozen? ⟨L.sb m,2,none⟩=false:=(Yn (lF.block (L.sb m) zc (λe=>jJ (Yc e).symm))).trans rL;obtain⟨g',n',c',rfl⟩:∃g' n' c',v'=.slice g' n' c':=by
     rcases Z4 pY with⟨hv,_⟩|⟨g',c',hv,_⟩;·exact⟨_,_,_,hv⟩
     .exact⟨_,_,_,hv⟩
    obtain⟨LO,LP,LQ⟩:=ds pY lF Ip;clear pY lF Ip Cu rL r4;go_wp2;go_ret;refine⟨rfl,?_⟩;obtain⟨ρ',U,hA,hF⟩:=Zo5 Y.o HM.o LO.o (by rw[HV.o];exact LP.o) (by rw[HV.o];exact LQ.o);exact⟨ρ',U,hA,(Fr.of_below cA aP.o).trans hF⟩
   .have D4:(b.kind !=4)=true:=by simp[J]
    rw[Y3 J];clear J;obtain⟨bn,bv,bk,br⟩:=b;simp only at D4;go_enter func140,ntmps140
    go_wp2_with fail
    refine HC.o.mono ?_;rintro e w1⟨rfl,rfl⟩;go_wp2_with fail
    refine Zru ?_;intro w1 q0 hs d1 d2 z2 aM eK au;go_wp2_with fail
    refine(bE.o w1 eK.o).mono ?_;rintro e w2⟨rfl,y⟩;have I:=eK.o.below y;have r4:=HR.o w2 I 4 (vI bk) rfl;have Y:=lh I;have aP:=lh (au.o.trans (y.mono (Nat.le_of_lt hs)));clear y I q0 d1 d2 z2;go_wp2;go_ret;exact⟨rfl,ρ,L,Y.o,Fr.of_below cA aP.o⟩
  .rw[Y3 aW]at hq;have hd:H.drop m name=H.cut s.object name:=by simp[LHeap.drop,hob,aW,hq]
   rw[hd];have lG:=λw1 (hh:HeapAt ρ w1 hb ho L H)=>Zn2 hh s.object name;generalize(H.cut s.object name).2=er at lG ⊢;obtain⟨D6,HH,HB⟩:=ds lG u F;clear h u hob X hm F dl hq lG hd;go_enter func140,ntmps140
   go_wp2_with fail
   refine HC.o.mono ?_;rintro e w1⟨rfl,rfl⟩;go_wp2_with fail
   refine Zru ?_;intro w1 q0 hs d1 d2 z2 aM eK au;go_wp2_with fail
   refine Z7 [0,2,4,6,8,10] [6,7] (λW=>vC W (L.sb m) 1 (vI s.object)/\vC W w.heap.size 0 (.string name)) ⟨d1,q0⟩ λ_=>?_;refine dS ?_
   iterate 6
    refine dq ?_
   refine Z1 ?_;go_wp2_with fail
   refine(D6.o w1.drew eK.o.drew).mono ?_;rintro e w2⟨rfl,ρ',U,hA,hF⟩;have o6:=lh hA;have yT:=lh hF;clear hA hF;go_wp2;go_ret;exact⟨rfl,ρ',U,o6.o,(Fr.of_below cA au.o.drew).trans yT.o⟩
 .have O:H.has (m:Int) name=false:=by simpa using hq
  rw[O]at HA;have hd:H.drop m name=(H,true):=by
   rw[X]at O;unfold LHeap.drop;simp only[hob];split at O
   .rename_i aW;have :s.idx name=none:=by simpa using O
    rw[Y5 aW,this]
   .rename_i aW;rw[Y3 aW];simp[O]
  rw[hd];have HH:=lh u;clear h u hob X hm F dl hq O hd;go_enter func140,ntmps140
  go_wp2_with fail
  refine HC.o.mono ?_;rintro e w1⟨rfl,rfl⟩;go_wp2_with fail
  refine HA.o.mono ?_;rintro e w1⟨rfl,hB⟩;have au:=lh hB;clear hB;go_wp2;go_ret;exact⟨rfl,ρ,L,HH.o.below au.o,Fr.of_below cA (Xw au.o)⟩
def Z88(h:HeapAt ρ w hb ho L H)(code:Int)(hn:H.objects.length<1099511627776) :
 kC 19 #[.pointer (some ⟨hb,ho,none⟩),vI code] w λe w'=>e=.returned (vI H.objects.length)/\
  ∃ρ' L',HeapAt ρ' w' hb ho L' {H with objects:=H.objects++[⟨[],code⟩]}/\Fr ρ ρ' hb ho w w':=by
 obtain⟨i0,hi,aC,bj,bJ⟩:=info_parts ZM;have iG:=h.cellO;have sg:=h.frO;have cA:=h.hbLt;have o:=h.rowO;have y:∀g,L.vo.ownBlock=some g->g<w.heap.size:=λg m=>(o.lt g m).2;have F:∀g,L.vo.ownBlock=some g->g≠hb:=λg m e=>by have:=h.rvo g m;rw[e,h.rhp]at this;cases this
 obtain⟨vs,p⟩:=zX L.vo
 obtain⟨sb,aM⟩:=zX (zy L.ob H.objects.length)
 obtain⟨n,I⟩:=zX H.objects.length
 rw[<-p,<-aM]at o;rw[<-p]at iG y F;rw[<-I]at hn o ⊢;obtain⟨HH,HV,HS,HN,HO,HL,HR⟩:=kF h p aM I o y F;clear h p aM I o y F;have O:∀U X (w1:kV),((w.alloc U).alloc X).grownBy w1 vs.ownBlock->w1.cell? ⟨hb,ho,none⟩=some vs/\w1.frozen? ⟨hb,ho,none⟩=false:=λU X w1 m=>
  ⟨(m.cell_far ⟨hb, ho, none⟩ Qi (fun e => HR.o hb e.symm rfl)).trans ((Zb Qi).trans ((Zb cA).trans iG)),
   (m.frozen_far ⟨hb,ho,none⟩ Qi (λe=>HR.o hb e.symm rfl)).trans ((TT Qi).trans ((TT cA).trans sg))⟩
 have HA:=lh O;clear O;go_enter func19,ntmps19
 go_wp2_with (at_builtin;go_must (refine wpList_append_lies _ rfl (.tmp 9) (.tmp 13) 64 rfl 0 126 i0 (.pointer none) 1 8 underlying64 hi aC bj bJ rfl Qg vs n sb rfl ((HO.o.alloc _).alloc _) ⟨w.heap.size+1,0,none⟩ 1 1 [vP w.heap.size] rfl rfl (Zw7 _ _ _ _) Qp Qe Qj Qe Qe (w.heap.size+2) Qm ?_);intro g cap w1 Y J Z cX;obtain⟨jE,tI⟩:=HA.o _ _ _ J;have HG:=lh J;have HW:=lh Y;have HT:=lh Z;have uQ:=lh cX;clear J Y Z cX)
 go_ret;refine⟨Z9m Qe,?_⟩;have hA:kW w ((w.alloc (.cells #[.slice none 0 0,vI code] 129)).alloc (.cells #[vP w.heap.size] 126)):=((Y2 _ _).alloc (Y0 _) _).alloc Qm _;refine Zvv ?_;intro aH k1 k2 k3 k4 k5 k6 k7 k8 k9 jF hv yD gJ h;refine h.addObject (nb:=w.heap.size) k1 ?_ ?_ (Y0 _) k7 ?_ k2 k3 ?_ ?_ k8 k9 jF;·exact WX
 .exact Zw4
 .intro b ai aw bo;rw[<-hv]at bo;exact k4 b ai aw bo
 .exact Xg
 .exact Zz2
def LHeap.code(H:LHeap)(n:Int):Int:=match H.object? n with|some o=>o.code|none=>0
def Zhx(h:HeapAt ρ w hb ho L H)(n:Int) :
 kC 65 #[.pointer (some ⟨hb,ho,none⟩),vI n] w λe w'=>e=.returned (vI (H.code n))/\w'=w:=by
 rcases hob:H.object? n with _|o
 .have HC:=lh (Z87 h n hob);have hd:H.code n=0:=by simp[LHeap.code,hob]
  rw[hd];clear h hob hd;go_enter func65,ntmps65
  exact Lu
 .obtain⟨m,rfl,g⟩:∃m:Nat,n=m/\H.objects[m]?=some o:=by
   unfold LHeap.object? at hob;split at hob;·cases hob
   .exact⟨n.toNat,by omega,hob⟩
  have p:=getElem?_lt g;have HC:=lh (Z70 h m p);have hd:H.code m=o.code:=by simp[LHeap.code,hob]
  rw[hd];have hc:w.cell? ⟨L.ob m,1,none⟩=some (vI o.code):=by have:=(h.obj m o g).1;simp[vC,World.cell?,this]
  clear h hob hd g;go_enter func65,ntmps65
  exact Lu
def LVal.true(v:LVal):Bool:=if v.kind=0\/v.kind=1 then false else if v.kind=2\/v.kind=3 then v.n !=0 else if v.kind=4 then !Zh v.s ⟨#[]⟩else Bool.true
def Zdp(w:kV)(v:LVal) :
 kC 99 #[v.agg] w λe w'=>e=.returned (.bool v.true)/\kW w w':=by
 obtain⟨k,n,s⟩:=v;simp only[LVal.agg,LVal.true];by_cases g:k=0
 .subst g;exact VW
 by_cases k1:k=1
 .subst k1;exact VW
 by_cases m:k=2
 .subst m;exact VW
 by_cases o:k=3
 .subst o;exact VW
 by_cases p:k=4
 .subst p;go_enter func99,ntmps99
  go_wp2;go_ret;refine⟨Zpu ?_,(Y2 _ _).alloc (Y0 _) _⟩;simp;rw[<-TZ,show(⟨#[]⟩:kB).toList=[] by simp[ByteArray.toList_eq]];cases s.toList<;>rfl
 .have y:(k==0)=false:=by simp[g]
  have F:(k==1)=false:=SA
  have I:(k==2)=false:=by simp[m]
  have J:(k==3)=false:=by simp[o]
  have O:(k==4)=false:=by simp[p]
  have u:(if k=0\/k=1 then false else if k=2\/k=3 then n !=0 else if k=4 then !Zh s ⟨#[]⟩else true)=true:=by simp[g,k1,m,o,p]
  rw[u];clear g k1 m o p u;go_enter func99,ntmps99
  go_wp2;go_ret;exact⟨rfl,(Y2 _ _).alloc (Y0 _) _⟩
end
def Zga{α:Type}{f:α->List Value}{m:Nat}(hf:∀a,(f a).length=m){l:List α}{k:Nat}{a a':α}(hk:l[k]?=some a){j:Nat}(p:j<m){x:Value}(g:f a'=(f a).set j x) :
 (l.flatMap f).set (k*m+j) x=(l.set k a').flatMap f:=by
 induction l generalizing k with
 |nil=>simp at hk
 |cons b l o=>
   cases k with
   |zero=>
     simp only[List.getElem?_cons_zero,Option.some.injEq]at hk;subst hk;refine Zty ?_;rw[List.set_append_left _ _ (by rw[hf];omega),g]
   |succ k=>
     simp only[List.getElem?_cons_succ]at hk;simp only[List.set_cons_succ,List.flatMap_cons];have e:(k+1)*m+j=(f b).length+(k*m+j):=RN
     rw[e,List.set_append_right _ _ Qe,Nat.add_sub_cancel_left,o hk]
def LHeap.start (H:LHeap) (n:Int) (name:kB) (v:LVal):LHeap×Int:=
 match H.scope? n with
 |none=>(H,7)
 |some s=>
   if 0<=s.object then(H,7)
   else
    match s.idx name with
    |none=>(H,7)
    |some k=>
      match s.names[k]? with
      |none=>(H,7)
      |some b=>(H.setNames n.toNat s (s.names.set k {b with v:=v,ready:=true}),0)
section
variable {ρ:Nat->Option Role}{w:kV}{hb ho:Nat}{L:HL}{H:LHeap}
def Zma{w1:kV}{m k g c:Nat}{s:LScope}{b:LBind}{vk vn:Int}{vs:kB}(h:HeapAt ρ w1 hb ho L H)(o:H.scopes[m]?=some s)(hp:s.names[k]?=some b)
 (hv:L.nv m=.slice (some ⟨g,0,none⟩) s.names.length c) :
 ∃ ρ' u, HeapAt ρ' ((((w1.setCell ⟨g, k * 6 + 1, none⟩ (vI vk)).setCell ⟨g, k * 6 + 1 + 1, none⟩ (vI vn)).setCell ⟨g, k * 6 + 1 + 2, none⟩ (.string vs)).setCell ⟨g, k * 6 + 5, none⟩ (.bool true)) hb ho u (H.setNames m s (s.names.set k { b with v := ⟨vk, vn, vs⟩, ready := true })) ∧
   Fr ρ ρ' hb ho w1 ((((w1.setCell ⟨g,k*6+1,none⟩ (vI vk)).setCell ⟨g,k*6+1+1,none⟩ (vI vn)).setCell ⟨g,k*6+1+2,none⟩ (.string vs)).setCell ⟨g,k*6+5,none⟩ (.bool true)):=by
 have dw:=getElem?_lt o;have F:=getElem?_lt hp;obtain⟨I,p⟩:=h.scp m s o;have J:g≠L.sb m:=λe=>by
  exact Zvg
 rw[hv]at p;have hst:=((Z8r (f:=LBind.cells) (m:=6) (λ_=>rfl) p hp (j:=1) Qe (x:=(vI vk)) (y:=(vI vn)) (z:=.string vs) (a':={b with v:=⟨vk,vn,vs⟩}) rfl).stored (k*6+5) (.bool true)).1;rw[Zga (f:=LBind.cells) (m:=6) (λ_=>rfl) (k:=k) (a:={b with v:=⟨vk,vn,vs⟩}) (a':={b with v:=⟨vk,vn,vs⟩,ready:=true}) (by simp[F]) Qe rfl,List.set_set]at hst
 have far:∀b,b≠g->((((w1.setCell ⟨g,k*6+1,none⟩ (vI vk)).setCell ⟨g,k*6+1+1,none⟩ (vI vn)).setCell ⟨g,k*6+1+2,none⟩ (.string vs)).setCell ⟨g,k*6+5,none⟩ (.bool true)).heap[b]?=w1.heap[b]?:=λb hb=>by
  rw[Y8 _ _ _ _ hb,Y8 _ _ _ _ hb,Y8 _ _ _ _ hb,Y8 _ _ _ _ hb]
 refine h.setNames o (nv':=.slice (some ⟨g,0,none⟩) s.names.length c) (names':=s.names.set k {b with v:=⟨vk,vn,vs⟩,ready:=true}) ?_ ?_ Qm ?_ ?_ rfl rfl rfl;·rw[far _ (Ne.symm J),<-hv];exact I
 .simp only[List.length_set];exact hst
 .exact Zsk
 .intro U O;rw[hv];exact .inl O
def Zl9(h:HeapAt ρ w hb ho L H)(n:Int)(name:kB)(v:LVal) :
 kC 97 #[.pointer (some ⟨hb,ho,none⟩),vI n,.string name,v.agg] w λe w'=>e=.returned (cL (H.start n name v).2)/\
  ∃ρ' X,HeapAt ρ' w' hb ho X (H.start n name v).1/\Fr ρ ρ' hb ho w w':=by
 have cA:=h.hbLt;obtain⟨vk,vn,vs⟩:=v;simp only[LVal.agg];refine UP ?_;intro h1 cu;have q0:(w.alloc (.cells #[vI vk,vI vn,.string vs] 71)).cell? ⟨w.heap.size,0,none⟩=some (vI vk):=Ys _ _ _ 0;have q1:(w.alloc (.cells #[vI vk,vI vn,.string vs] 71)).cell? ⟨w.heap.size,1,none⟩=some (vI vn):=Ys _ _ _ 1;have q2:(w.alloc (.cells #[vI vk,vI vn,.string vs] 71)).cell? ⟨w.heap.size,2,none⟩=some (.string vs):=Ys _ _ _ 2
 have hs:w.heap.size<(w.alloc (.cells #[vI vk,vI vn,.string vs] 71)).heap.size:=Qm
 rcases hob:H.scope? n with _|s
 .have HC:=lh (WI h1 n hob);have hw:H.start n name ⟨vk,vn,vs⟩=(H,7):=by simp[LHeap.start,hob]
  rw[hw];have HH:=lh h1;have HB:=lh cu;clear h h1 cu hob hw q0 q1 q2;go_enter func97,ntmps97
  exact TN
 obtain⟨m,rfl,hm⟩:=LHeap.scope?_some hob;have dw:=getElem?_lt hm;have HC:=lh (UY h1 m dw);refine Wu ?_;intro jE;by_cases aW:0<=s.object
 .have hw:H.start m name ⟨vk,vn,vs⟩=(H,7):=by simp[LHeap.start,hob,aW]
  rw[hw];have HH:=lh h1;have HB:=lh cu;clear h h1 cu hob hw q0 q1 q2 hm;go_enter func97,ntmps97
  exact TN
 have LR:s.object<0:=Qe
 have F:=lh (λw1 (hh:HeapAt ρ w1 hb ho L H)=>Z6v hh m s hm name);rcases hk:s.idx name with _|k
 .have hw:H.start m name ⟨vk,vn,vs⟩=(H,7):=by simp[LHeap.start,hob,aW,hk]
  rw[hw];rw[hk]at F;simp only[TM]at F;have HH:=lh h1;have HB:=lh cu;clear h h1 cu hob hw q0 q1 q2 hm hk aW;go_enter func97,ntmps97
  go_wp2_with fail
  refine HC.o.mono ?_;rintro e w1⟨rfl,rfl⟩;go_wp2_with fail
  refine(F.o _ HH.o).mono ?_;rintro e w2⟨rfl,ar⟩;have I:=lh ar;clear ar;go_wp2;go_ret;exact⟨rfl,ρ,L,HH.o.below I.o,Fr.of_below cA (HB.o.trans (I.o.mono (Nat.le_of_lt hs)))⟩
 obtain⟨b,hp,_⟩:=LScope.idx_some hk;have aY:=getElem?_lt hp;have hw:H.start m name ⟨vk,vn,vs⟩=(H.setNames m s (s.names.set k {b with v:=⟨vk,vn,vs⟩,ready:=true}),0):=by simp[LHeap.start,hob,aW,hk,hp]
 rw[hw];obtain⟨_,af⟩:=h.scp m s hm;rcases Z4 af with⟨hv,hz⟩|⟨g,c,hv,h2,h3,cX⟩;·omega
 obtain⟨pn,⟨pk,pm,ps⟩,uX,ve⟩:=b;refine X9 ?_;intro ae;have bz:=λw1 (hh:HeapAt ρ w1 hb ho L H) j=>U' (hh.scp m s hm).2 (g:=g) QB j;have xF:g≠w.heap.size:=Qe
 have O:=lh ae;have J:=lh bz;rw[hk,hv]at F;simp only[TM,Value.ownBlock,Option.map_some]at F;obtain⟨HH,HB,HM,HP,HV⟩:=gq h1 cu hm hp hv;clear h h1 cu hob hw hm hk aW hp af hv ae bz;go_enter func97,ntmps97
 go_wp2_with fail
 refine HC.o.mono ?_;rintro e w1⟨rfl,dU⟩;rw[dU]at HH jE q0 q1 q2 hs HB;clear dU;go_wp2_with fail
 refine(F.o _ HH.o).mono ?_;rintro e w2⟨rfl,ar⟩;have fp:=HH.o.below ar;have U:=Y7 hs ar.size;refine Uy ?_;intro mr iq lY;have Y:=lh fp;have I:=lh (HB.o.trans (ar.mono (Nat.le_of_lt hs)));clear ar fp q0 q1 q2 jE HH HB;go_wp2_with fail
 refine(F.o _ Y.o).mono ?_;rintro e y⟨rfl,o⟩;have u:=Y.o.below o;have r1:=O.o y u 1 (vI pk) rfl;have r2:=O.o y u 2 (vI pm) rfl;have r3:=O.o y u 3 (.string ps) rfl;have r5:=O.o y u 5 (.bool ve) rfl;have z1:=J.o y u (k*6+1);have z2:=J.o y u (k*6+1+1);have z3:=J.o y u (k*6+1+2);have z5:=J.o y u (k*6+5);have z6:=J.o y u (k*6+3);have p0:=(o.cell (p:=⟨w.heap.size,0,none⟩) U).trans mr;have p1:=(o.cell (p:=⟨w.heap.size,1,none⟩) U).trans iq
 have p2:=(o.cell (p:=⟨w.heap.size,2,none⟩) U).trans lY;have LS:=lh u;have Z:=lh (I.o.trans (o.mono (Nat.le_of_lt U)));clear o u mr iq lY Y I;go_wp2;go_ret;refine⟨rfl,?_⟩;obtain⟨ρ',X,hA,hF⟩:=Zma (vk:=vk) (vn:=vn) (vs:=vs) LS.o HM.o HP.o HV.o;exact⟨ρ',X,hA,(Fr.of_below cA Z.o).trans hF⟩
end
def HeapAt.fresh{ρ:Nat->Option Role}{w:kV}{hb ho:Nat}{L:HL}{H:LHeap}(h:HeapAt ρ w hb ho L H){b:Nat}(hb:w.heap.size<=b):ρ b=none:=by
 cases hr:ρ b with
 |none=>rfl
 |some r=>exact absurd (h.live b Rr) Qe
def Zny(w:kV)(n:Int) :
 kC 117 #[vI n] w λe w'=>e=.returned (LVal.agg ⟨3,n,⟨#[]⟩⟩)/\kW w w':=by
 go_enter func117,ntmps117
 go_wp2;exact Yp (v:=LVal.agg ⟨3,n,⟨#[]⟩⟩) (by simp[results,results117,go_sem,LVal.agg]) rfl ⟨rfl,(Y2 _ _).alloc (Y0 _) _⟩
def Zba(w:kV)(n:kB) :
 kC 118 #[.string n] w λe w'=>e=.returned (LVal.agg ⟨4,0,n⟩)/\kW w w':=by
 go_enter func118,ntmps118
 go_wp2;exact Yp (v:=LVal.agg ⟨4,0,n⟩) (by simp[results,results118,go_sem,LVal.agg]) rfl ⟨rfl,(Y2 _ _).alloc (Y0 _) _⟩
