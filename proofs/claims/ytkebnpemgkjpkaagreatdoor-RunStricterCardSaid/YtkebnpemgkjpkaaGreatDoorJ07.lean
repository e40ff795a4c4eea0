import Derived.Test.YtkebnpemgkjpkaaGreatDoorJ06
set_option maxRecDepth 100000
set_option maxHeartbeats 20000000
set_option linter.all false
namespace Go.Proofs.YtkebnpemgkjpkaaGreatDoor
open Go Go.RowKit Go.Proofs.Tryz Tryz
def LHeap.setNames(H:LHeap)(m:Nat)(s:LScope)(l:List LBind):LHeap:={H with scopes:=H.scopes.set m {s with names:=l}}
def LHeap.write (H:LHeap) (n:Int) (name:kB) (v:LVal):LHeap×Int:=
 match H.scope? n with
 |none=>(H,7)
 |some s=>
   if s.object<0 then
    match s.idx name with
    |none=>(H,7)
    |some k=>
      match s.names[k]? with
      |none=>(H,7)
      |some b=>
        if b.ready=false then(H,6)
        else if b.kind=2 then(H,1)
        else if b.kind=3 then(H,5)
        else(H.setNames n.toNat s (s.names.set k {b with v:=v}),0)
   else if(H.get s.object name).isSome then H.put s.object name v false else(H,7)
section
variable {ρ:Nat->Option Role}{w:kV}{hb ho:Nat}{L:HL}{H:LHeap}
def Znl{w1:kV}{m k g c:Nat}{s:LScope}{b:LBind}{vk vn:Int}{vs:kB}(h:HeapAt ρ w1 hb ho L H)(hm:H.scopes[m]?=some s)(hp:s.names[k]?=some b)
 (hv:L.nv m=.slice (some ⟨g,0,none⟩) s.names.length c) :
 ∃ ρ' u, HeapAt ρ' (((w1.setCell ⟨g, k * 6 + 1, none⟩ (vI vk)).setCell ⟨g, k * 6 + 1 + 1, none⟩ (vI vn)).setCell ⟨g, k * 6 + 1 + 2, none⟩ (.string vs)) hb ho u (H.setNames m s (s.names.set k { b with v := ⟨vk, vn, vs⟩ })) ∧
   Fr ρ ρ' hb ho w1 (((w1.setCell ⟨g,k*6+1,none⟩ (vI vk)).setCell ⟨g,k*6+1+1,none⟩ (vI vn)).setCell ⟨g,k*6+1+2,none⟩ (.string vs)):=by
 have dw:=getElem?_lt hm;obtain⟨F,p⟩:=h.scp m s hm;have I:g≠L.sb m:=λe=>by
  exact Xy
 rw[hv]at p;have hst:=Z93 (f:=LBind.cells) (m:=6) (λ_=>rfl) p hp (j:=1) Px (x:=(vI vk)) (y:=(vI vn)) (z:=.string vs) (a':={b with v:=⟨vk,vn,vs⟩}) rfl;have far:∀b,b≠g->(((w1.setCell ⟨g,k*6+1,none⟩ (vI vk)).setCell ⟨g,k*6+1+1,none⟩ (vI vn)).setCell ⟨g,k*6+1+2,none⟩ (.string vs)).heap[b]?=w1.heap[b]?:=λb hb=>by
  exact Zxm
 refine h.setNames hm (nv':=.slice (some ⟨g,0,none⟩) s.names.length c) (names':=s.names.set k {b with v:=⟨vk,vn,vs⟩}) ?_ ?_ PE ?_ ?_ rfl rfl rfl;·rw[far _ (Ne.symm I),<-hv];exact F
 .simp only[List.length_set];exact hst
 .exact Zsr
 .intro O J;rw[hv];exact .inl J
def Zkj(h:HeapAt ρ w hb ho L H)(m:Nat)(s:LScope)(name:kB)(k:Nat)(b:LBind)(vk vn:Int)(vs:kB)(hm:H.scopes[m]?=some s)(aU:s.object<0)(hk:s.idx name=some k)(hp:s.names[k]?=some b)(hr:b.ready=false) :
 kC 124 #[.pointer (some ⟨hb,ho,none⟩),vI m,.string name,.agg #[vI vk,vI vn,.string vs]] w λe w'=>e=.returned (da 6)/\
  ∃ρ' u,HeapAt ρ' w' hb ho u H/\Fr ρ ρ' hb ho w w':=by
 refine VG ?_;intro cA dw aX h1 hob cM HC;rw[cM]at HC;rcases Z4 h.rowS with⟨dt,y⟩|⟨gs,cs,dt,J,F,O⟩;·omega
 unfold maxLen at F;refine Tu ?_;intro aq;obtain⟨_,af⟩:=h.scp m s hm;rcases Z4 af with⟨hv,y⟩|⟨g,c,hv,U,I,X⟩;·omega
 unfold maxLen at I;obtain⟨pn,⟨pk,pm,ps⟩,uL,Y⟩:=b;refine Vx ?_;intro ae bu HF HR HZ bB;rw[hk,hv]at bB;simp only[Tm,Value.ownBlock,Option.map_some]at bB;obtain⟨HH,Z,HP,HV⟩:=en h1 hm hp hv;simp only at hr;exact YD
def Zhc(h:HeapAt ρ w hb ho L H)(m:Nat)(s:LScope)(name:kB)(k:Nat)(b:LBind)(vk vn:Int)(vs:kB)(hm:H.scopes[m]?=some s)(aU:s.object<0)(hk:s.idx name=some k)(hp:s.names[k]?=some b)(hr:b.ready=true)(u:(b.kind==2)=true) :
 kC 124 #[.pointer (some ⟨hb,ho,none⟩),vI m,.string name,.agg #[vI vk,vI vn,.string vs]] w λe w'=>e=.returned (da 1)/\
  ∃ρ' y,HeapAt ρ' w' hb ho y H/\Fr ρ ρ' hb ho w w':=by
 refine VG ?_;intro cA dw aX h1 hob cM HC;rw[cM]at HC;rcases Z4 h.rowS with⟨dt,F⟩|⟨gs,cs,dt,O,I,U⟩;·omega
 unfold maxLen at I;refine Tu ?_;intro aq;obtain⟨_,af⟩:=h.scp m s hm;rcases Z4 af with⟨hv,F⟩|⟨g,c,hv,X,J,Y⟩;·omega
 unfold maxLen at J;obtain⟨pn,⟨pk,pm,ps⟩,uL,Z⟩:=b;refine Vx ?_;intro ae bu HF HR HZ bB;rw[hk,hv]at bB;simp only[Tm,Value.ownBlock,Option.map_some]at bB;obtain⟨HH,HM,HP,HV⟩:=en h1 hm hp hv;simp only at hr u;exact YD
def Zo7(h:HeapAt ρ w hb ho L H)(m:Nat)(s:LScope)(name:kB)(k:Nat)(b:LBind)(vk vn:Int)(vs:kB)(hm:H.scopes[m]?=some s)(aU:s.object<0)(hk:s.idx name=some k)(hp:s.names[k]?=some b)(hr:b.ready=true)(u:(b.kind==2)=false)(y:(b.kind==3)=true) :
 kC 124 #[.pointer (some ⟨hb,ho,none⟩),vI m,.string name,.agg #[vI vk,vI vn,.string vs]] w λe w'=>e=.returned (da 5)/\
  ∃ρ' F,HeapAt ρ' w' hb ho F H/\Fr ρ ρ' hb ho w w':=by
 refine VG ?_;intro cA dw aX h1 hob cM HC;rw[cM]at HC;rcases Z4 h.rowS with⟨dt,I⟩|⟨gs,cs,dt,U,J,X⟩;·omega
 unfold maxLen at J;refine Tu ?_;intro aq;obtain⟨_,af⟩:=h.scp m s hm;rcases Z4 af with⟨hv,I⟩|⟨g,c,hv,Y,O,Z⟩;·omega
 unfold maxLen at O;obtain⟨pn,⟨pk,pm,ps⟩,uL,uW⟩:=b;refine Vx ?_;intro ae bu HF HR HZ bB;rw[hk,hv]at bB;simp only[Tm,Value.ownBlock,Option.map_some]at bB;obtain⟨HH,HM,HP,HV⟩:=en h1 hm hp hv;simp only at hr u y;exact YD
def Zq2(h:HeapAt ρ w hb ho L H)(m:Nat)(s:LScope)(name:kB)(k:Nat)(b:LBind)(vk vn:Int)(vs:kB)(hm:H.scopes[m]?=some s)(aU:s.object<0)(hk:s.idx name=some k)(hp:s.names[k]?=some b)(hr:b.ready=true)(F:(b.kind==2)=false)(I:(b.kind==3)=false) :
 kC 124 #[.pointer (some ⟨hb,ho,none⟩),vI m,.string name,.agg #[vI vk,vI vn,.string vs]] w λe w'=>e=.returned (da 0)/\
  ∃ρ' u,HeapAt ρ' w' hb ho u (H.setNames m s (s.names.set k {b with v:=⟨vk,vn,vs⟩}))/\Fr ρ ρ' hb ho w w':=by
 refine VG ?_;intro cA dw aX h1 hob cM HC;rw[cM]at HC;rcases Z4 h.rowS with⟨dt,J⟩|⟨gs,cs,dt,aF,O,pJ⟩;·omega
 unfold maxLen at O;refine Tu ?_;intro aq;obtain⟨_,y⟩:=h.scp m s hm;rcases Z4 y with⟨hv,J⟩|⟨g,c,hv,h2,U,cV⟩;·omega
 unfold maxLen at U;obtain⟨pn,⟨pk,pm,ps⟩,X,uW⟩:=b;refine Vx ?_;intro ae bu HF HR HZ bB;rw[hk,hv]at bB;simp only[Tm,Value.ownBlock,Option.map_some]at bB;obtain⟨HH,Y,Z,HV⟩:=en h1 hm hp hv;simp only at hr F I;subst hr;clear h h1 hob cM hm dt aq hk hp y hv ae bu;go_enter func124,ntmps124
 go_wp2_with fail
 refine UL ?_;intro w1 q0 q1 q2 f0 f1 f2 hs d0 d1 d2 eI HB;go_wp2_with fail
 refine Zsq ?_;intro w2 ar fk r0 r1 r2 r3;have r4:=HR.o w2 fk 4 (vI X) rfl;have z1:=HZ.o w2 fk (k*6+1);have z2:=HZ.o w2 fk (k*6+1+1);have z3:=HZ.o w2 fk (k*6+1+2);refine Uh ?_;intro mm jm nW;have nZ:=lh fk;have aN:=lh (HB.o.trans (ar.mono (Nat.le_of_lt hs)));clear ar fk q0 q1 q2 f0 f1 f2 d0 d1 d2;go_wp2;go_ret;refine⟨rfl,?_⟩;obtain⟨ρ',u,hA,hF⟩:=Znl (vk:=vk) (vn:=vn) (vs:=vs) nZ.o Y.o Z.o HV.o;exact⟨ρ',u,hA,(Fr.of_below cA aN.o).trans hF⟩
def Zmq(h:HeapAt ρ w hb ho L H)(n:Int)(name:kB)(v:LVal)(O:∀(m:Nat) (o:LObj),H.objects[m]?=some o->o.props.length<1099511627776) :
 kC 124 #[.pointer (some ⟨hb,ho,none⟩),vI n,.string name,v.agg] w λe w'=>e=.returned (da (H.write n name v).2)/\
  ∃ρ' U,HeapAt ρ' w' hb ho U (H.write n name v).1/\Fr ρ ρ' hb ho w w':=by
 have X:=h.hbLt;obtain⟨vk,vn,vs⟩:=v;simp only[LVal.agg];have h1:=h.below ((Y2 _ _).alloc (Y0 _) (.cells #[vI vk,vI vn,.string vs] 56));by_cases hq:H.has n name=true
 .obtain⟨s,hob,y⟩:∃s,H.scope? n=some s/\(if s.object<0 then(s.idx name).isSome else(H.get s.object name).isSome)=true:=by
   exact Zwo
  obtain⟨m,rfl,hm⟩:=LHeap.scope?_some hob;have dw:=getElem?_lt hm;by_cases aU:s.object<0
  ·rw [Y5 aU] at y;obtain ⟨k, hk⟩ := Option.isSome_iff_exists.1 y;obtain ⟨b, hp, _⟩ := LScope.idx_some hk;by_cases hr : b.ready = false
   .have hw:H.write m name ⟨vk,vn,vs⟩=(H,6):=by simp[LHeap.write,hob,aU,hk,hp,hr]
    rw[hw];exact Zkj h m s name k b vk vn vs hm aU hk hp hr
   .have u:b.ready=true:=by simpa using hr
    by_cases F:b.kind=2
    .have hw:H.write m name ⟨vk,vn,vs⟩=(H,1):=by simp[LHeap.write,hob,aU,hk,hp,u,F]
     rw[hw];exact Zhc h m s name k b vk vn vs hm aU hk hp u (by simp[F])
    .by_cases I:b.kind=3
     .have hw:H.write m name ⟨vk,vn,vs⟩=(H,5):=by simp[LHeap.write,hob,aU,hk,hp,u,I]
      rw[hw];exact Zo7 h m s name k b vk vn vs hm aU hk hp u (by simp[F]) (by simp[I])
     .have hw:H.write m name ⟨vk,vn,vs⟩=(H.setNames m s (s.names.set k {b with v:=⟨vk,vn,vs⟩}),0):=by simp[LHeap.write,hob,aU,hk,hp,u,F,I]
      rw[hw];exact Zq2 h m s name k b vk vn vs hm aU hk hp u (by simp[F]) (by simp[I])
  .rw[Y3 aU]at y;have hw:H.write m name ⟨vk,vn,vs⟩=H.put s.object name ⟨vk,vn,vs⟩ false:=by simp[LHeap.write,hob,aU,y]
   rw[hw];have HC:=lh (Vh h1 (m:Int) name);rw[hq]at HC;rcases Z4 h.rowS with⟨dt,hz⟩|⟨gs,cs,dt,aF,cf,pJ⟩;·omega
   unfold maxLen at cf;refine Tu ?_;intro aq;have HF:=lh aq;have J:=λw1 (hh:HeapAt ρ w1 hb ho L H)=>Znk hh s.object name ⟨vk,vn,vs⟩ false O;simp only[LVal.agg]at J;generalize da (H.put s.object name ⟨vk,vn,vs⟩ false).2=er at J ⊢;have p9:=lh J;clear J;have HH:=lh h1;clear h h1 hob y hm dt aq hq hw O;go_enter func124,ntmps124
   go_wp2_with fail
   refine UL ?_;intro w1 q0 q1 q2 f0 f1 f2 hs d0 d1 d2 eI HB;go_wp2_with fail
   refine Z7 [0,2,4,6,8,10,12] [7,8] (λW=>vC W (L.sb m) 1 (vI s.object)/\vC W w.heap.size 0 (vI vk)/\vC W w.heap.size 1 (vI vn)/\vC W w.heap.size 2 (.string vs)) ⟨d2,q0,q1,q2⟩ λ_=>?_;refine dU ?_
   iterate 7
    refine fa ?_
   refine Z0 ?_;go_wp2_with fail
   refine(p9.o w1.drew eI.o.drew).mono ?_;rintro e w2⟨rfl,ρ',U,Y,Z⟩;have HA:=lh Y;have yP:=lh Z;clear Y Z;go_wp2;go_ret;exact⟨rfl,ρ',U,HA.o,(Fr.of_below X HB.o.drew).trans yP.o⟩
 .have p:H.has n name=false:=by simpa using hq
  have hw:H.write n name ⟨vk,vn,vs⟩=(H,7):=by
   unfold LHeap.has at p;unfold LHeap.write;split at p;·rename_i hs;simp[hs]
   .rename_i s hs;simp only[hs];split at p
    .have :s.idx name=none:=by simpa using p
     rename_i aU;rw[Y5 aU,this]
    .rename_i aU;rw[Y3 aU];simp[p]
  rw[hw];have HC:=lh (Vh h1 n name);rw[p]at HC;have HH:=lh h1;clear h h1 hq p hw O;go_enter func124,ntmps124
  go_wp2_with fail
  refine HC.o.mono ?_;rintro e w1⟨rfl,hB⟩;have HB:=lh hB;clear hB;go_wp2;go_ret;exact⟨rfl,ρ,L,HH.o.below HB.o,Fr.of_below X (Xm HB.o)⟩
end
def Z7r(w:kV)(g:Addr)(name n s:kB)(k m p:Int)(rd:Bool)(hx:w.cell? g=some (.string name))(hb:g.block<w.heap.size) :
 kC 154 #[.agg #[.string n,vI k,vI m,.string s,vI p,.bool rd],.pointer (some g)] w λe w'=>e=.returned (.bool (Zg n name))/\kW w w':=by
 go_enter func154,ntmps154
 exact Ztx
def Abs(w:kV)(bx:Addr)(name:kB)(hx:w.cell? bx=some (.string name))(hb:bx.block<w.heap.size)(v:Value)(l:List LBind)
 (af:w.ownsRow 0 157 6 v l.length (l.flatMap LBind.cells)) :
 kC 75 #[v,.func (.func 154) #[] #[.pointer (some bx)]] w λe w'=>e=.returned (vI (Ed (l.findIdx? (LBind.is name))))/\kW w w':=by
 have ae:=λg hg i j a x=>SH (f:=LBind.cells) (m:=6) (λ_=>rfl) af (g:=g) hg (i:=i) (j:=j) (a:=a) (x:=x);rcases Z4 af with⟨hv,hz⟩|⟨g,c,hv,h1,u,hg⟩;·exact AbA
 .subst hv;have hc:=ae g rfl;clear af ae;obtain⟨n,hn⟩:=zX l.length
  rw[<-hn]at h1 ⊢;unfold maxLen at u;have HN:=lh hn;clear hn;go_enter func75,ntmps75
  go_wp2;go_loopw [5,8] (λ_ i wr=>∃k:Nat,i=(vI k)/\k<=n/\(∀j a,j<k->l[j]?=some a->LBind.is name a=false)/\kW w wr) (λ_ i _=>n-(intOf i).toNat)
  case atStart=>exact⟨0,rfl,by omega,λj a hj=>by omega,Y2 _ _⟩
  case round=>
   obtain⟨k,rfl,hk,dO,hB⟩:=hrel;have aE:n=l.length:=HN.o;by_cases F:k<n
   .have y:k<l.length:=by omega
    have ef:l[k]?=some l[k]:=Y6 y;generalize l[k]=b at ef;obtain⟨bn,⟨bk,bm,bs⟩,ml,ka⟩:=b;refine AaC ?_;intro c0 c1 c2 c3 c4 c5 kZ du HG HO;clear ef dO hc hx aE;by_cases hq:Zg bn name=true
    .go_wp2_with (go_at_call 154;refine(Z7r _ bx name bn bs bk bm ml ka kZ du).mono ?_;rintro e w1⟨rfl,aO⟩)
     exact Zv9
    .go_wp2_with (go_at_call 154;refine(Z7r _ bx name bn bs bk bm ml ka kZ du).mono ?_;rintro e w1⟨rfl,aO⟩)
     exact Aba
   .exact Aar
def Zk0{w:kV}{base:Nat}{e:TypeId}{g cap n:Nat}{l:List LBind}(h:w.ownsRow base e 6 (.slice (some ⟨g,0,none⟩) n cap) n (l.flatMap LBind.cells)){k:Nat}(hk:k<l.length)(b:LBind) :
 ((((((w.setCell ⟨g,k*6,none⟩ (.string b.name)).setCell ⟨g,k*6+1,none⟩ (vI b.v.kind)).setCell ⟨g,k*6+2,none⟩ (vI b.v.n)).setCell ⟨g,k*6+3,none⟩ (.string b.v.s)).setCell ⟨g,k*6+4,none⟩ (vI b.kind)).setCell ⟨g,k*6+5,none⟩ (.bool b.ready)).ownsRow base e 6 (.slice (some ⟨g,0,none⟩) n cap) n ((l.set k b).flatMap LBind.cells):=by
 have m:=((((((((((h.stored (k*6) (.string b.name)).1.stored (k*6+1) (vI b.v.kind)).1).stored (k*6+2) (vI b.v.n)).1).stored (k*6+3) (.string b.v.s)).1).stored (k*6+4) (vI b.kind)).1).stored (k*6+5) (.bool b.ready)).1;have:(l.set k b).flatMap LBind.cells=((((((l.flatMap LBind.cells).set (k*6) (.string b.name)).set (k*6+1) (vI b.v.kind)).set (k*6+2) (vI b.v.n)).set (k*6+3) (.string b.v.s)).set (k*6+4) (vI b.kind)).set (k*6+5) (.bool b.ready):=by
  clear h m;induction l generalizing k with
  |nil=>simp at hk
  |cons c l p=>
    cases k with
    |zero=>
      refine Zvb ?_;rfl
    |succ k=>
      simp only[List.set_cons_succ,List.flatMap_cons];have e:(k+1)*6=(LBind.cells c).length+k*6:=by simp[LBind.cells];omega
      rw[e];simp only[Nat.add_assoc];rw[List.set_append_right _ _ Px,List.set_append_right _ _ Px,List.set_append_right _ _ Px,List.set_append_right _ _ Px,List.set_append_right _ _ Px,List.set_append_right _ _ Px];simp only[Nat.add_sub_cancel_left];rw[p Ra]
 rw[this];exact m
def Z71{w0 w:kV}{g o:Nat}(m:w0.grownBy w (some g))(a:Value):w0.grownBy (w.setCell ⟨g,o,none⟩ a) (some g):=
 ⟨m.os,m.tape,m.output,by rw[Yf];exact m.size,λb hb p=>(Y8 _ _ _ _ (λe=>p (by rw[e]))).trans (m.block b hb p)⟩
def Zhf{w0 w:kV}{g:Nat}(m:w0.grownBy w (some g))(k:Nat)(a b c d e f:Value) :
 w0.grownBy ((((((w.setCell ⟨g,k,none⟩ a).setCell ⟨g,k+1,none⟩ b).setCell ⟨g,k+2,none⟩ c).setCell ⟨g,k+3,none⟩ d).setCell ⟨g,k+4,none⟩ e).setCell ⟨g,k+5,none⟩ f) (some g):=
 Z71 (Z71 (Z71 (Z71 (Z71 (Z71 m a) b) c) d) e) f
def Z77{w0 w w':kV}{row:Option Nat}(g:w0.grownBy w row)(m:kW w w'):w0.grownBy w' row:=
 ⟨m.os.trans g.os,m.tape.trans g.tape,m.output.trans g.output,Y4 g.size m.size,λb hb p=>(m.block b (Y7 hb g.size)).trans (g.block b hb p)⟩
theorem Zf6(w:kV)(row:Option Nat):w.grownBy w row:=⟨rfl,rfl,rfl,Y0 _,λ_ _ _=>rfl⟩
def Z6s{α:Type}{f:α->List Value}{m:Nat}(hf:∀a,(f a).length=m)(l:List α)(i:Nat):(l.take i).flatMap f=(l.flatMap f).take (i*m):=by
 induction l generalizing i with
 |nil=>simp
 |cons a l g=>
   cases i with
   |zero=>simp
   |succ i=>
     simp only[List.take_succ_cons,List.flatMap_cons];rw[g,show(i+1)*m=(f a).length+i*m by rw[hf,Nat.succ_mul];omega,List.take_length_add_append]
def Ze2{P:Program}{w:kV}{e t:TypeId}{m:Nat}{g cap:Nat}{α:Type}{f:α->List Value}{l:List α}(hf:∀a,(f a).length=m)(hm:0<m)(z:Value)(ht:P.underlying t=some (.slice e))(U:∀w,(zeroValue e).run P w=.ok z w)(F:z.cells.size=m)
 (h1:∀v∈z.cells.toList,v.oneCell'=true)(h:w.ownsRow 0 e m (.slice (some ⟨g,0,none⟩) l.length cap) l.length (l.flatMap f)){i:Nat}(hi:i<l.length)(X:TypeId) :
 ∃w',(Builtin.clear_ #[t] X #[.slice (some ⟨g,i*m,none⟩) (l.length-i) (cap-i)]).run P w=.ok (.tuple #[]) w'/\w'.ownsRow 0 e m (.slice (some ⟨g,0,none⟩) i cap) i ((l.take i).flatMap f)/\w.grownBy w' (some g):=by
 rcases h.2 with⟨p,_⟩|⟨g',yQ,u,p,hb,I,Y,Z,y,nA⟩;·simp at p
 simp only[Value.slice.injEq,Option.some.injEq,Addr.mk.injEq,and_true,true_and]at p;obtain⟨rfl,rfl⟩:=p;have J:(Builtin.zeroCells z.cells (l.length-i)).toList.length=(l.length-i)*m:=by rw[Array.length_toList,size_zeroCells,F]
 have oe:l.length*m<=cap*m:=Nat.mul_le_mul_right _ Y;have D5:(l.length-i)*m=l.length*m-i*m:=Nat.sub_mul ..;have D6:i*m<=l.length*m:=Nat.mul_le_mul_right _ Px;have hst:=run_storeCells_at P g (i*m) e (Builtin.zeroCells z.cells (l.length-i)).toList 0 u w I (by rw[J,y];omega) (by
  intro v O;simp only[Builtin.zeroCells]at O;obtain⟨k,hk,rfl⟩:=List.getElem_of_mem O;simp only[Array.getElem_toList];rcases Nat.lt_or_ge (k %z.cells.size) z.cells.size with p|p;·exact h1 _ (by simp[p])
  .rw[F]at p;exact absurd (Nat.mod_lt k hm) Px)
 have fN:∃d,l.length-i=d+1:=⟨l.length-i-1,by omega⟩
 obtain⟨d,hd⟩:=fN;refine⟨w.setRow g (u.toList.take (i*m+0)++(Builtin.zeroCells z.cells (l.length-i)).toList++u.toList.drop (i*m+0+(Builtin.zeroCells z.cells (l.length-i)).toList.length)).toArray,?_,?_,?_⟩
 .rw[hd]at hst ⊢;simp[Builtin.clear_,run_underlying ht,U,hst]
 .refine⟨by rw[ZL hf,List.length_take];congr 1;omega,.inr ⟨g,cap,_,rfl,Yh _,setRow_heap w g u _ e (0,0) I,by omega,Z,?_,?_⟩⟩
  .simp only[Nat.add_zero,List.size_toArray,List.length_append,List.length_take,List.length_drop,Array.length_toList,y];rw[<-Array.length_toList,J];omega
  .simp only[Nat.add_zero,List.append_assoc];rw[List.take_append_of_le_length (by simp only[List.length_take,Array.length_toList,y];omega),List.take_take,Nat.min_self];have e1:=Z6s hf l i;rw[e1,<-nA,List.take_take,Nat.min_eq_left D6]
 .exact⟨rfl,rfl,rfl,by simp,λk hk aG=>setRow_other w g k _ (λe=>aG (by rw[e]))⟩
def unnamed(name:kB)(l:List LBind):List LBind:=l.filter λb=>!LBind.is name b
theorem Zq7(w:kV):(zeroValue 157).run Tryz.prog w=.ok (.agg #[.string ⟨#[]⟩,vI 0,vI 0,.string ⟨#[]⟩,vI 0,.bool false]) w:=by kernel_rfl
def Z3f{name:kB}{l:List LBind}{j:Nat}{b:LBind}(h:l[j]?=some b):unnamed name (l.take (j+1))=unnamed name (l.take j)++(if LBind.is name b then[]else[b]):=by
 unfold unnamed;rw[List.take_add_one,h,Option.toList_some,List.filter_append];congr 1
 by_cases hb:LBind.is name b=true<;>simp[hb]
def Z9b{name:kB}{l:List LBind}(h:∀(j:Nat) b,l[j]?=some b->LBind.is name b=false):unnamed name l=l:=by
 unfold unnamed;rw[List.filter_eq_self];intro b hb;obtain⟨j,g,rfl⟩:=List.getElem_of_mem hb;rw[h j _ (Y6 g)];rfl
def Zbp(w:kV)(F:Addr)(name:kB)(hx:w.cell? F=some (.string name))(hb:F.block<w.heap.size)(v:Value)(l:List LBind)(ic:v.ownBlock≠some F.block)
 (u:w.ownsRow 0 157 6 v l.length (l.flatMap LBind.cells)) :
 kC 153 #[v,.func (.func 154) #[] #[.pointer (some F)]] w λe w'=>∃v',e=.returned v'/\w'.ownsRow 0 157 6 v' (unnamed name l).length ((unnamed name l).flatMap LBind.cells)/\w.grownBy w' v.ownBlock/\v'.ownBlock=v.ownBlock:=by
 have HI:=lh (Abs w F name hx hb v l u);rcases ja:l.findIdx? (LBind.is name)with _|O
 .rw[ja]at HI;have ao:unnamed name l=l:=by
   have:=List.findIdx?_eq_none_iff.1 ja;exact Z9b λj b hj=>this b (Yd hj)
  rw[ao];have HO:=lh u;clear u ao ja hx;go_enter func153,ntmps153
  go_wp2_with fail
  refine HI.o.mono ?_;rintro e w1⟨rfl,p⟩;simp only[Ed];have HB:=lh p;clear p;go_wp2;go_ret;exact⟨v,rfl,Z3 HO.o λg hg=>HB.o.block g (HO.o.lt g hg).2,Z77 (Zf6 w v.ownBlock) HB.o,rfl⟩
 ·rw [ja] at HI;obtain ⟨oY, yS, nB⟩ := List.findIdx?_eq_some_iff_getElem.1 ja;rcases Z4 u with ⟨rfl, hz⟩ | ⟨g, c, rfl, h1, h2, hg⟩;·omega
  unfold maxLen at h2;have gJ:g≠F.block:=λe=>ic (by rw[<-e];rfl);obtain⟨n,hn⟩:=zX l.length
  rw[<-hn]at h1 u HI ⊢;have LA:O<n:=Px
  have yT:unnamed name (l.take O)=l.take O:=Z9b λj b hj=>by
   have pU:j<O:=by have:=getElem?_lt hj;simp at this;omega
   rw[List.getElem?_take,Y5 pU]at hj;obtain⟨iF,rfl⟩:=List.getElem?_eq_some_iff.1 hj;simpa using nB j pU
  have yU:unnamed name (l.take (O+1))=l.take O:=by
   rw[Z3f (Y6 oY),yT,Y5 yS,List.append_nil]
  obtain⟨HN,HO,HU⟩:=ds hn u yU;clear u ja yS nB yT yU ic hn;have dV:((O:Int)== -1)=false:=beq_eq_false_iff_ne.2 Px;go_enter func153,ntmps153
  go_wp2_with fail
  refine HI.o.mono ?_;rintro e w1⟨rfl,p⟩;simp only[Ed];have HB:=lh p;clear p;go_wp2_with fail
  go_loopw [5,6,7] (λa b _ wr=>∃(i j:Nat) (M:List LBind),a=(vI i)/\b=(vI j)/\i<j/\j<=n/\M.length=n/\M.take i=unnamed name (l.take j)/\M.drop j=l.drop j/\wr.ownsRow 0 157 6 (.slice (some ⟨g,0,none⟩) n c) n (M.flatMap LBind.cells)/\w.grownBy wr (some g)) (λ_ b _ _=>n-(intOf b).toNat)
  case atStart=>
   refine⟨O,O+1,l,by go_num,by go_num,by omega,by omega,HN.o.symm,HU.o.symm,rfl,?_,Z77 (Zf6 w _) HB.o⟩;exact Z3 HO.o λY eO=>HB.o.block Y (HO.o.lt Y eO).2
  case round=>
   obtain⟨i,j,M,rfl,rfl,BZ,Cf,hM,yV,yW,u,y⟩:=hrel;have aE:n=l.length:=HN.o;have vb:wr.cell? F=some (.string name):=(Yb (y.block F.block hb (λe=>gJ (Yc e).symm))).trans hx;have LC:F.block<wr.heap.size:=Y7 hb y.size;have cV:g<wr.heap.size:=Y7 hg y.size;by_cases ay:j<n
   .have D7:M[j]?=l[j]?:=by
     have:=congrArg (λx:List LBind=>x[0]?) yW;simpa using this
    have lH:l[j]?=some l[j]:=Y6 Px;have J:=D7.trans lH;have D8:M.drop (j+1)=l.drop (j+1):=by
     have:=congrArg (List.drop 1) yW;simpa using this
    generalize l[j]=b at lH J;have Cg:M[i]?=some M[i]:=Y6 Px;generalize M[i]=bi at Cg;obtain⟨I,⟨Z,bm,bs⟩,ml,ka⟩:=b;have U:=λk x j' b (du:M[k]?=some b)=>SH (f:=LBind.cells) (m:=6) (λ_=>rfl) u (g:=g) rfl (i:=k) (j:=j') (x:=x) du;have c0:wr.cell? ⟨g,j*6,none⟩=some (.string I):=U j (.string I) 0 _ J rfl;have c1:=U j (vI Z) 1 _ J rfl;have c2:=U j (vI bm) 2 _ J rfl;have c3:=U j (.string bs) 3 _ J rfl
    have c4:=U j (vI ml) 4 _ J rfl;have c5:=U j (.bool ka) 5 _ J rfl;have sq:(wr.alloc (.cells #[.string I,vI Z,vI bm,.string bs,vI ml,.bool ka] 157)).cell? F=some (.string name):=(Zc LC).trans vb;have hC:=Z7r _ F name I bs Z bm ml ka sq PB;obtain⟨mD,oa,OA,Ig,Ih,Ii,xF,LD⟩:=kw u y J lH D8 yV hM Cg;by_cases hq:Zg I name=true
    .rw[hq]at hC;have HC:=lh hC;clear u y J lH D8 yV hM Cg yW D7 U hC sq aE;go_wp2_with fail
     refine HC.o.mono ?_;rintro e w1⟨rfl,p⟩;have av:=lh (Xm p);clear p;go_wp2;go_roundw
     case rel=>
      refine⟨i,j+1,M,rfl,by go_num,by omega,by omega,xF.o,?_,Ih.o,?_,Z77 oa.o av.o⟩;·rw[Z3f Ig.o,Ii.o,Y5 (show LBind.is name ⟨I,⟨Z,bm,bs⟩,ml,ka⟩=true from hq),List.append_nil]
      .exact Z3 mD.o λY eO=>av.o.block Y (mD.o.lt Y eO).2
     case measure=>simp[intOf];omega
    .have eU:Zg I name=false:=by simpa using hq
     rw[eU]at hC;have HC:=lh hC;have HR:=lh U;clear u y J lH D8 yV hM Cg yW D7 U hC sq aE;go_wp2_with fail
     refine HC.o.mono ?_;rintro e w1⟨rfl,p⟩;have q0:=Zy p 0 (.string I) rfl;have q1:=Zy p 1 (vI Z) rfl;have q2:=Zy p 2 (vI bm) rfl;have q3:=Zy p 3 (.string bs) rfl;have q4:=Zy p 4 (vI ml) rfl;have q5:=Zy p 5 (.bool ka) rfl;have aO:=Xm p;have X:w1.ownsRow 0 157 6 (.slice (some ⟨g,0,none⟩) n c) n (M.flatMap LBind.cells):=Z3 mD.o λY eO=>aO.block Y (mD.o.lt Y eO).2;have jd:=λx j'=>SH (f:=LBind.cells) (m:=6) (λ_=>rfl) X (g:=g) rfl (i:=i) (j:=j') (x:=x) LD.o
     have e0:w1.cell? ⟨g,i*6,none⟩=some (.string bi.name):=jd _ 0 rfl;have e1:=jd _ 1 rfl;have e2:=jd _ 2 rfl;have e3:=jd _ 3 rfl;have e4:=jd _ 4 rfl;have e5:=jd _ 5 rfl;have f0:=Uf X (g:=g) rfl (i*6);have f1:=Uf X (g:=g) rfl (i*6+1);have f2:=Uf X (g:=g) rfl (i*6+2);have f3:=Uf X (g:=g) rfl (i*6+3);have f4:=Uf X (g:=g) rfl (i*6+4);have f5:=Uf X (g:=g) rfl (i*6+5);have av:=lh aO;have LE:=lh X;clear p aO X jd c0 c1 c2 c3 c4 c5 vb hx;have jq:i<n:=Px
     go_wp2;go_roundw
     case rel=>
      refine⟨i+1,j+1,M.set i ⟨I,⟨Z,bm,bs⟩,ml,ka⟩,by go_num,by go_num,by omega,by omega,by simp[xF.o],?_,?_,?_,?_⟩
      .rw[Z3f Ig.o,Y3 (show¬LBind.is name ⟨I,⟨Z,bm,bs⟩,ml,ka⟩=true from hq),<-Ii.o,List.take_add_one,List.getElem?_set_self (by rw[xF.o];omega),List.take_set_of_le (Y0 _)];rfl
      .rw[List.drop_set_of_lt Px];exact Ih.o
      .exact Zk0 LE.o (by rw[xF.o];omega) ⟨I,⟨Z,bm,bs⟩,ml,ka⟩
      .exact Zhf (Z77 oa.o av.o) _ _ _ _ _ _ _
     case measure=>simp[intOf];omega
   .have D9:j=n:=by omega
    subst D9;have eo:=Ze2 (P:=Tryz.prog) (f:=LBind.cells) (m:=6) (l:=M) (t:=107) (g:=g) (cap:=c) (w:=wr) (λ_=>rfl) Py _ underlying107 Zq7 rfl (by intro v hv;simp[Value.cells]at hv;rcases hv with rfl|rfl|rfl|rfl|rfl<;>rfl) (by rw[hM];exact u) (i:=i) Px 0;rw[hM]at eo;obtain⟨w2,ip,aJ,og⟩:=eo;have D':M.take i=unnamed name l:=by rw[yV,Ye Px]
    have Ij:(unnamed name l).length=i:=by rw[<-D',List.length_take];omega
    rw[D']at aJ;obtain⟨mD,oa,xF⟩:=ds aJ (show w.grownBy w2 (some g)from⟨og.os.trans y.os,og.tape.trans y.tape,og.output.trans y.output,Y4 y.size og.size,λb h1 h2=>(og.block b (Y7 h1 y.size) h2).trans (y.block b h1 h2)⟩) Ij;clear u y yV hM yW aJ og D' Ij aE hx vb;have OB:i<c:=Px
    go_wp2;go_ret;exact⟨_,rfl,by rw[xF.o];exact mD.o,oa.o,rfl⟩
def Z9i{P:Program}{w:kV}{ai:Array Oper}{X:List Oper}{o:Oper}{a:Act}{Q:Exit->Act->kV->Prop}(LF:o.guard=none)(s x:Operand)(t:TypeId)
 (ho:o.op=.call {callee:=.builtin .append,args:=#[s,x],argTypes:=#[t,t]})
 (e:TypeId)(i:TypeInfo)(m:Nat)(ht:P.underlying t=some (.slice e))(hi:P.info? e=some i)(yX:i.size=m)
 (g cap k:Nat){α:Type}(f:α->List Value)(l:List α)(hf:∀a,(f a).length=m)(h1:∀a,∀v∈f a,v.oneCell'=true)
 (Y:w.ownsRow 0 e m (.slice (some ⟨g,0,none⟩) l.length cap) l.length (l.flatMap f))(hk:k<l.length)
 (hs:a.eval s=.slice (some ⟨g,0,none⟩) k cap)(I:Addr)(c:Nat)(hx:a.eval x=.slice (some I) (l.length-(k+1)) c)(LG:k+1<l.length->I=⟨g,(k+1)*m,none⟩)
 (h:∀w',w'.ownsRow 0 e m (.slice (some ⟨g,0,none⟩) l.length cap) l.length ((l.take k++l.drop (k+1)++l.drop (l.length-1)).flatMap f)->w.grownBy w' (some g)->wpList P ai Q X (a.put o.dst (.slice (some ⟨g,0,none⟩) (k+(l.length-(k+1))) cap)) w') :
 wpList P ai Q (o::X) a w:=by
 refine wpList_plain LF λK hK=>?_;rcases Y.2 with⟨F,_⟩|⟨g',yQ,p,F,hb,Z,yR,va,J,nA⟩;·simp at F
 simp only[Value.slice.injEq,Option.some.injEq,Addr.mk.injEq,and_true,true_and]at F;obtain⟨rfl,rfl⟩:=F;subst yX;have oe:l.length*i.size<=cap*i.size:=Nat.mul_le_mul_right _ yR;have y:((l.drop (k+1)).flatMap f).length=(l.length-(k+1))*i.size:=by rw[ZL hf,List.length_drop]
 have LH:k*i.size+(l.length-(k+1))*i.size+i.size=l.length*i.size:=by
  rw[<-Nat.add_mul,<-Nat.succ_mul];congr 1;omega
 have hr:=run_append_room (P:=P) w t o.type e i ht hi g k cap p Z I (l.length-(k+1)) c ((l.drop (k+1)).flatMap f) y (by
  intro j u O;have hj:j<(l.length-(k+1))*i.size:=by rw[<-y];exact(List.getElem?_eq_some_iff.1 O).1
  have ay:k+1<l.length:=by
   rcases Nat.lt_or_ge (k+1) l.length with h|h;·exact h
   .rw[show l.length-(k+1)=0 by omega]at hj;omega
  rw[LG ay];have e1:(⟨g,(k+1)*i.size,none⟩:Addr).add j=⟨g,(k+1)*i.size+j,none⟩:=by unfold Addr.add;split<;>simp_all
  rw[e1,Y.cellAt ((k+1)*i.size+j) (by
   have:(k+1)*i.size+(l.length-(k+1))*i.size=l.length*i.size:=RF
   omega)]
  have e2:(l.drop (k+1)).flatMap f=(l.flatMap f).drop ((k+1)*i.size):=by
   have:=Z6s hf l (k+1);have U:l.flatMap f=(l.take (k+1)).flatMap f++(l.drop (k+1)).flatMap f:=Q2
   rw[U,List.drop_left' Q8]
  rw[e2,List.getElem?_drop]at O;exact O) (by
  intro v hv;obtain⟨a',_,ha⟩:=List.mem_flatMap.1 hv;exact h1 a' v ha) Px (by rw[y,J];omega)
 unfold Oper.wp execOp;simp only[ho,resolve,invoke,builtin,Sem.run_bind,Sem.run_pure,Result.andThen_ok,List.map_toArray,List.map_cons,List.map_nil,hs,hx,hr];refine hK _ _ (h _ ⟨?_,.inr ⟨g,cap,_,rfl,Yh _,setRow_heap w g p _ e (0,0) Z,yR,va,?_,?_⟩⟩ ⟨rfl,rfl,rfl,by simp,λk' sr aG=>setRow_other w g k' _ (λe=>aG (by rw[e]))⟩);·rw[ZL hf];congr 1;simp;omega
 .simp only[List.size_toArray,List.length_append,List.length_take,List.length_drop,Array.length_toList,J,y];omega
 .rw[y];have eo:p.toList.length=cap*i.size:=by rw[Array.length_toList,J]
  have d1:p.toList=l.flatMap f++p.toList.drop (l.length*i.size):=by rw[<-nA,List.take_append_drop]
  have t1:p.toList.take (k*i.size)=(l.take k).flatMap f:=by
   rw[Z6s hf,<-nA,List.take_take,Nat.min_eq_left (Nat.mul_le_mul_right _ Px)]
  have t2:(p.toList.drop (k*i.size+(l.length-(k+1))*i.size)).take i.size=(l.drop (l.length-1)).flatMap f:=by
   have e3:k*i.size+(l.length-(k+1))*i.size=(l.length-1)*i.size:=RF
   have U:l.flatMap f=(l.take (l.length-1)).flatMap f++(l.drop (l.length-1)).flatMap f:=Q2
   rw[e3,d1,U,List.append_assoc,List.drop_left' Q8,List.take_left' (by rw[ZL hf,List.length_drop,show l.length-(l.length-1)=1 by omega,Nat.one_mul])]
  rw[t1];simp only[List.flatMap_append];rw[List.take_append,Ye (by simp only[List.length_append,ZL hf,List.length_take,List.length_drop];rw[Nat.min_eq_left Px];omega)];congr 1
  rw[<-t2];congr 1
  simp only[List.length_append,ZL hf,List.length_take,List.length_drop];rw[Nat.min_eq_left Px];omega
theorem Zs5(w:kV):(zeroValue 101).run Tryz.prog w=.ok (.agg #[.string ⟨#[]⟩,vI 0,vI 0,.string ⟨#[]⟩,.bool false]) w:=by kernel_rfl
def Zjp(w:kV)(g c k:Nat)(l:List LProp)(hk:k<l.length)(I:w.ownsRow 0 101 5 (.slice (some ⟨g,0,none⟩) l.length c) l.length (l.flatMap LProp.cells)) :
 kC 155 #[.slice (some ⟨g,0,none⟩) l.length c,vI k,vI (k+1)] w λe w'=>e=.returned (.slice (some ⟨g,0,none⟩) (l.length-1) c)/\w'.ownsRow 0 101 5 (.slice (some ⟨g,0,none⟩) (l.length-1) c) (l.length-1) ((l.eraseIdx k).flatMap LProp.cells)/\w.grownBy w' (some g):=by
 obtain⟨i0,hi,aC,O,bQ⟩:=info_parts Mt;obtain⟨h1,h2⟩:l.length<=c/\c<=maxLen:=by
  rcases Z4 I with⟨hv,_⟩|⟨g',c',hv,h1,h2,_⟩;·cases hv
  .cases hv;exact⟨h1,h2⟩
 unfold maxLen at h2;obtain⟨n,hn⟩:∃n,l.length=n+1:=⟨l.length-1,by omega⟩
 have J:=I;rw[hn]at J h1 hk ⊢;simp only[Nat.add_sub_cancel];obtain⟨U,OC,p⟩:=ds I J hn;clear I J hn;have aG:((k:Int)==(k:Int)+1)=false:=beq_eq_false_iff_ne.2 Px;have yY:k<c:=Px
 have yR:n<c:=Px
 have yZ:k<=c:=Px
 have LI:k<=n:=Px
 have X:∀w1:kV,w1.ownsRow 0 101 5 (.slice (some ⟨g,0,none⟩) l.length c) l.length ((l.take k++l.drop (k+1)++l.drop (l.length-1)).flatMap LProp.cells)->
  ∃w2,(Builtin.clear_ #[94] 0 #[.slice (some ⟨g,n*5,none⟩) 1 (c-n)]).run Tryz.prog w1=.ok (.tuple #[]) w2/\w2.ownsRow 0 101 5 (.slice (some ⟨g,0,none⟩) n c) n ((l.eraseIdx k).flatMap LProp.cells)/\w1.grownBy w2 (some g):=by
  intro w1 ho;have Y:(l.take k++l.drop (k+1)++l.drop (l.length-1)).length=n+1:=by have:=p.o;simp;omega
  have DB:w1.ownsRow 0 101 5 (.slice (some ⟨g,0,none⟩) (n+1) c) (n+1) ((l.take k++l.drop (k+1)++l.drop (l.length-1)).flatMap LProp.cells):=by
   have:=p.o;rw[this]at ho ⊢;exact ho
  have:=Ze2 (P:=Tryz.prog) (f:=LProp.cells) (m:=5) (l:=l.take k++l.drop (k+1)++l.drop (l.length-1)) (t:=94) (g:=g) (cap:=c) (w:=w1) (λ_=>rfl) Py _ underlying94 Zs5 rfl (by intro v hv;simp[Value.cells]at hv;rcases hv with rfl|rfl|rfl|rfl<;>rfl) (by rw[Y];exact DB) (i:=n) Px 0;rw[Y,Nat.add_sub_cancel_left]at this;obtain⟨w2,e1,Z,e3⟩:=this;have Du:(l.take k++l.drop (k+1)).length=n:=by have:=p.o;simp;omega
  rw[List.take_left' Du,<-List.eraseIdx_eq_take_drop_succ]at Z;exact⟨w2,e1,Z,e3⟩
 have Ik:=lh X;clear X;have bX:k+(n-k)=n:=Px
 have bO:n+1-(k+1)=n-k:=Px
 have Ch:=lh bX;have lp:=lh bO;clear bX bO;have oY:(0:Int)<=(k:Int)+1:=Px
 rcases Nat.lt_or_ge (k+1) c with hc|hc
 .have LJ:¬c=k+1:=by omega
  have LK:k+1<=c:=Px
  go_enter func155,ntmps155
  go_wp2_with fail
  refine Z7 [0,2,4,6,8,10] [6,7] (λ_=>True) trivial λ_=>?_;refine dU ?_
  iterate 6
   refine fa ?_
  refine Z0 ?_;refine Z9i rfl (.tmp 22) (.tmp 25) 94 rfl 101 i0 5 underlying94 hi O g c k LProp.cells l (λ_=>rfl) ?_ U.o.drew (by rw[p.o];omega) PM ⟨g,(k+1)*5,none⟩ (c-(k+1)) ?_ (λ_=>rfl) ?_;·exact Zxd
  .rw[p.o,lp.o];rfl
  intro w1 ho u;obtain⟨w2,ip,y,F⟩:=Ik.o w1 ho;obtain⟨mD,oa,HG⟩:=ds y F u;clear ho y u F;rw[p.o,lp.o,Ch.o];exact Abb
 .obtain rfl:n=k:=by omega
  obtain rfl:c=n+1:=by omega
  have hI:(n:Int)<=(n:Int)+1:=Px
  go_enter func155,ntmps155
  go_wp2_with fail
  refine Z7 [0,2,4,6,8,10] [6,7] (λ_=>True) trivial λ_=>?_;refine dU ?_
  iterate 6
   refine fa ?_
  refine Z0 ?_;refine Z9i rfl (.tmp 22) (.tmp 25) 94 rfl 101 i0 5 underlying94 hi O g (n+1) n LProp.cells l (λ_=>rfl) ?_ U.o.drew (by rw[p.o];omega) PM ⟨g,0,none⟩ 0 ?_ (λh=>by rw[p.o]at h;omega) ?_;·exact Zxd
  .rw[p.o,Nat.sub_self];rfl
  intro w1 ho u;obtain⟨w2,ip,y,F⟩:=Ik.o w1 ho;obtain⟨mD,oa,HG⟩:=ds y F u;clear ho y u F;rw[p.o,Nat.sub_self,Nat.add_zero];simp only[Nat.add_sub_cancel_left]at ip;exact Abb
def LHeap.cut(H:LHeap)(n:Int)(name:kB):LHeap×Bool:=
 match H.object? n with
 |none=>(H,true)
 |some o=>
   match o.idx name with
   |none=>(H,true)
   |some k=>
     match o.props[k]? with
     |none=>(H,true)
     |some p=>if p.fixed then(H,false)else({H with objects:=H.objects.set n.toNat {o with props:=o.props.eraseIdx k}},true)
def LHeap.drop (H:LHeap) (n:Int) (name:kB):LHeap×Bool:=
 match H.scope? n with
 |none=>(H,true)
 |some s=>
   if s.object<0 then
    match s.idx name with
    |none=>(H,true)
    |some k=>
      match s.names[k]? with
      |none=>(H,true)
      |some b=>if b.kind=4 then(H.setNames n.toNat s (unnamed name s.names),true)else(H,false)
   else if(H.get s.object name).isSome then H.cut s.object name else(H,true)
section
variable {ρ:Nat->Option Role}{w:kV}{hb ho:Nat}{L:HL}{H:LHeap}
def Zw6{w1 w2:kV}{m k g c:Nat}{o:LObj}(h:HeapAt ρ w1 hb ho L H)(hm:H.objects[m]?=some o)(hk:k<o.props.length)
 (hv:L.pv m=.slice (some ⟨g,0,none⟩) o.props.length c)
 (J:w2.ownsRow 0 101 5 (.slice (some ⟨g,0,none⟩) (o.props.length-1) c) (o.props.length-1) ((o.props.eraseIdx k).flatMap LProp.cells))(p:w1.grownBy w2 (some g)) :
 ∃ ρ' O, HeapAt ρ' (w2.setCell ⟨L.ob m, 0, none⟩ (.slice (some ⟨g, 0, none⟩) (o.props.length - 1) c)) hb ho O { H with objects := H.objects.set m { o with props := o.props.eraseIdx k } } ∧
   Fr ρ ρ' hb ho w1 (w2.setCell ⟨L.ob m,0,none⟩ (.slice (some ⟨g,0,none⟩) (o.props.length-1) c)):=by
 have dw:=getElem?_lt hm;obtain⟨ac,_⟩:=h.obj m o hm;have u:L.ob m<w1.heap.size:=(Y1.1 ac).1;have y:g≠L.ob m:=λe=>by
  exact Xs
 have U:w1.cell? ⟨L.ob m,0,none⟩=some (L.pv m):=PC
 obtain⟨k1,k2,k3,X,Y,k6,Z,k8,k9,jB⟩:=Z4d (.slice (some ⟨g,0,none⟩) (o.props.length-1) c) (Y2 w1.heap.size w1) p u (λe=>y (Yc e)) U;have jc:w2.heap[L.ob m]?=some (.cells #[L.pv m,vI o.code] 96 (0,0)):=
  (p.block _ u (λe=>y (Yc e).symm)).trans ac
 have aE:(o.props.eraseIdx k).length=o.props.length-1:=by rw[List.length_eraseIdx,Y5 hk]
 refine h.setProps hm (nv':=.slice (some ⟨g,0,none⟩) (o.props.length-1) c) (props':=o.props.eraseIdx k) ?_ ?_ Z ?_ ?_ k8 k9 jB;·exact Zj _ jc
 .rw[aE];exact Z3 J λF eO=>Y F Qc
 .intro b h1 h2 I;rw[hv]at I;exact X b h1 h2 I
 .intro F eO;rw[hv];exact .inl eO
def Zph{w1 w2:kV}{m:Nat}{s:LScope}{g:Value}{l:List LBind}(h:HeapAt ρ w1 hb ho L H)(hm:H.scopes[m]?=some s)
 (U:w2.ownsRow 0 157 6 g l.length (l.flatMap LBind.cells))(y:w1.grownBy w2 (L.nv m).ownBlock)(F:g.ownBlock=(L.nv m).ownBlock) :
 ∃ρ' X,HeapAt ρ' (w2.setCell ⟨L.sb m,2,none⟩ g) hb ho X (H.setNames m s l)/\Fr ρ ρ' hb ho w1 (w2.setCell ⟨L.sb m,2,none⟩ g):=by
 have I:=getElem?_lt hm;obtain⟨ac,_⟩:=h.scp m s hm;have J:L.sb m<w1.heap.size:=(Y1.1 ac).1;have p:(L.nv m).ownBlock≠some (L.sb m):=λe=>by
  have h1:=h.rnv m _ I e;rw[h.rsb m I]at h1;cases h1
 have Y:w1.cell? ⟨L.sb m,2,none⟩=some (L.nv m):=PC
 obtain⟨k1,k2,k3,Z,k5,k6,k7,k8,k9,jB⟩:=Z4d g (Y2 w1.heap.size w1) y J p Y;have jc:w2.heap[L.sb m]?=some (.cells #[vI s.outer,vI s.object,L.nv m] 109 (0,0)):=
  (y.block _ J (λe=>p e.symm)).trans ac
 refine h.setNames hm (nv':=g) (names':=l) ?_ ?_ k7 ?_ ?_ k8 k9 jB;·exact Zj _ jc
 .exact Z3 U λO u=>k5 O (λe=>p (by rw[<-F,u,e]))
 .exact Z
 .intro O u;exact .inl (by rw[<-F];exact u)
def Zlo(h:HeapAt ρ w hb ho L H)(n:Int)(name:kB) :
 kC 141 #[.pointer (some ⟨hb,ho,none⟩),vI n,.string name] w λe w'=>e=.returned (.bool (H.cut n name).2)/\
  ∃ρ' Z,HeapAt ρ' w' hb ho Z (H.cut n name).1/\Fr ρ ρ' hb ho w w':=by
 have cA:=h.hbLt;rcases hob:H.object? n with _|o
 .have J:=lh (Z8h h n hob);have hd:H.cut n name=(H,true):=by simp[LHeap.cut,hob]
  rw[hd];have F:=lh h;clear h hob hd;go_enter func141,ntmps141
  go_wp2_with fail
  refine J.o.mono ?_;rintro e w1⟨rfl,rfl⟩;go_wp2;go_ret;exact⟨rfl,ρ,L,F.o,Fr.refl _ _ _ _⟩
 .obtain⟨m,rfl,hm⟩:=LHeap.object?_some hob;have O:=getElem?_lt hm;have J:=lh (Z7a h m O);have HF:=lh (Zdb h m o hm name);rcases hk:o.idx name with _|k
  .have hd:H.cut m name=(H,true):=by simp[LHeap.cut,hob,hk]
   rw[hd];rw[hk]at HF;have F:=lh h;clear h hob hd hm hk;go_enter func141,ntmps141
   go_wp2_with fail
   refine J.o.mono ?_;rintro e w1⟨rfl,rfl⟩;go_wp2_with fail
   refine Zne ?_;intro w1 hB;have I:=lh hB;clear hB;go_wp2;go_ret;exact⟨rfl,ρ,L,F.o.below I.o,Fr.of_below cA I.o⟩
  .obtain⟨p,hp,_⟩:=LObj.idx_some hk;have aX:=getElem?_lt hp;rw[hk]at HF;obtain⟨p7,iG⟩:=h.obj m o hm;rcases Z4 iG with⟨hv,hz⟩|⟨g,c,hv,h2,h3,cV⟩;·omega
   unfold maxLen at h3;obtain⟨pn,⟨pk,pm,ps⟩,U⟩:=p;have hd:H.cut m name=if U then(H,false)else({H with objects:=H.objects.set m {o with props:=o.props.eraseIdx k}},true):=by simp[LHeap.cut,hob,hk,hp]
   rw[hd];obtain⟨F,HM,HV,HP⟩:=en h hm hv hp;clear h hob hd hm hk hp p7 iG hv;have aq:∀w1,HeapAt ρ w1 hb ho L H->vC w1 (L.ob m) 0 (.slice (some ⟨g,0,none⟩) o.props.length c)/\w1.frozen? ⟨L.ob m,0,none⟩=false/\w1.cell? ⟨g,k*5+4,none⟩=some (.bool U)/\w1.ownsRow 0 101 5 (.slice (some ⟨g,0,none⟩) o.props.length c) o.props.length (o.props.flatMap LProp.cells):=λw1 hh=>by
    obtain⟨ac,af⟩:=hh.obj m o HM.o;have ae:=SH (f:=LProp.cells) (m:=5) (λ_=>rfl) af (g:=g) QK (i:=k) (j:=4) (x:=.bool U) HP.o rfl;rw[HV.o]at af ac;exact⟨by simp[vC,World.cell?,ac],by simp[World.frozen?,ac],ae,af⟩
   have dW:=lh aq;clear aq;cases U
   .simp only[Bool.false_eq_true,if_false];go_enter func141,ntmps141
    go_wp2_with fail
    refine J.o.mono ?_;rintro e w1⟨rfl,rfl⟩;go_wp2_with fail
    refine Zne ?_;intro w1 hB;have u:=F.o.below hB;obtain⟨d0,z0,d1,X⟩:=dW.o w1 u;obtain⟨HD,y,I⟩:=ds (Zjp w1 g c k o.props aX X) u hB;clear hB u X;go_wp2_with fail
    refine HD.o.mono ?_;rintro e w2⟨rfl,aJ,Y⟩;have jI:g≠L.ob m:=λe=>by
     have h1:=y.o.rpv m g O QK;rw[e,y.o.rob m O]at h1;cases h1
    have y7:=y.o.live (L.ob m) (by rw[y.o.rob m O];simp);have d2:vC w2 (L.ob m) 0 (.slice (some ⟨g,0,none⟩) o.props.length c):=(Yb (Y.block (L.ob m) y7 (λe=>jI (Yc e).symm))).trans d0;have z2:w2.frozen? ⟨L.ob m,0,none⟩=false:=(Yn (Y.block (L.ob m) y7 (λe=>jI (Yc e).symm))).trans z0;have mD:=lh aJ;have oa:=lh Y;clear aJ Y d0 d1 z0;go_wp2;go_ret;refine⟨rfl,?_⟩;obtain⟨ρ',Z,hA,hF⟩:=Zw6 y.o HM.o aX HV.o mD.o oa.o
    exact⟨ρ',Z,hA,(Fr.of_below cA I.o).trans hF⟩
   .simp only[if_true];go_enter func141,ntmps141
    go_wp2_with fail
    refine J.o.mono ?_;rintro e w1⟨rfl,rfl⟩;go_wp2_with fail
    refine Zne ?_;intro w1 hB;have u:=F.o.below hB;obtain⟨d0,z0,d1,X⟩:=dW.o w1 u;have y:=lh u;have I:=lh hB;clear hB u X;go_wp2;go_ret;exact⟨rfl,ρ,L,y.o,Fr.of_below cA I.o⟩
def Zna{w w1:kV}{s:kB}{T:TypeId}(g:Below (w.alloc (.cells #[.string s] T)).heap.size (w.alloc (.cells #[.string s] T)) w1) :
 vC w1 w.heap.size 0 (.string s)/\w.heap.size<w1.heap.size/\kW w w1:=
 ⟨Zy g 0 _ rfl,Z5k g,Xm g⟩
def Zr9(h:HeapAt ρ w hb ho L H)(n:Int)(name:kB) :
 kC 140 #[.pointer (some ⟨hb,ho,none⟩),vI n,.string name] w λe w'=>e=.returned (.bool (H.drop n name).2)/\
  ∃ρ' O,HeapAt ρ' w' hb ho O (H.drop n name).1/\Fr ρ ρ' hb ho w w':=by
 have cA:=h.hbLt;have h1:=h.below ((Y2 _ _).alloc (Y0 _) (.cells #[.string name] 9));have y:kW w (w.alloc (.cells #[.string name] 9)):=(Y2 _ _).alloc (Y0 _) _;rcases hob:H.scope? n with _|s
 .have HC:=lh (Vo h1 n hob);have hd:H.drop n name=(H,true):=by simp[LHeap.drop,hob]
  rw[hd];have HH:=lh h1;have HB:=lh y;clear h h1 hob hd y;go_enter func140,ntmps140
  exact Tv
 obtain⟨m,rfl,hm⟩:=LHeap.scope?_some hob;have dw:=getElem?_lt hm;have HC:=lh (UX h1 m dw);have HA:=lh (Vh h1 (m:Int) name);have U:=has_eq (name:=name) hob;have aq:∀w1,HeapAt ρ w1 hb ho L H->vC w1 (L.sb m) 1 (vI s.object)/\vC w1 (L.sb m) 2 (L.nv m)/\w1.frozen? ⟨L.sb m,2,none⟩=false/\L.sb m<w1.heap.size/\w1.ownsRow 0 157 6 (L.nv m) s.names.length (s.names.flatMap LBind.cells):=λw1 hh=>by
  obtain⟨Y,af⟩:=hh.scp m s hm;exact⟨by simp[vC,World.cell?,Y],by simp[vC,World.cell?,Y],by simp[World.frozen?,Y],(Y1.1 Y).1,af⟩
 have HF:=lh aq;have HM:=lh hm;have dl:=y;clear aq;by_cases hq:H.has (m:Int) name=true
 ·rw [hq] at HA;rw [U] at hq;by_cases aU : s.object < 0
  .rw[Y5 aU]at hq;obtain⟨k,hk⟩:=Option.isSome_iff_exists.1 hq;obtain⟨b,hp,_⟩:=LScope.idx_some hk;have aX:=getElem?_lt hp;obtain⟨_,iG⟩:=h.scp m s hm;rcases Z4 iG with⟨hv,hz⟩|⟨g,c,hv,h2,h3,cV⟩;·omega
   have hd:H.drop m name=if b.kind=4 then(H.setNames m s (unnamed name s.names),true)else(H,false):=by simp[LHeap.drop,hob,aU,hk,hp]
   rw[hd];have Z:=lh (λw1 (hh:HeapAt ρ w1 hb ho L H)=>Z73 hh m s hm name);rw[hk,hv]at Z;simp only[Tm,Value.ownBlock,Option.map_some]at Z;refine Aak ?_;intro ae;have BQ:g<w.heap.size:=cV;obtain⟨HR,HH,HV,HB⟩:=en ae h1 hv y;clear h h1 hob U hm y dl hq hk hp iG hv ae hd;by_cases I:b.kind=4
   .have Ea:(b.kind !=4)=false:=by simp[I]
    rw[Y5 I];clear I;obtain⟨bn,bv,bk,br⟩:=b;simp only at Ea;go_enter func140,ntmps140
    go_wp2_with fail
    refine HC.o.mono ?_;rintro e w1⟨rfl,rfl⟩;go_wp2_with fail
    refine Zth ?_;intro w1 q0 hs d1 d2 z2 aK eI av;go_wp2_with fail
    refine(Z.o w1 eI.o).mono ?_;rintro e w2⟨rfl,u⟩;have F:=eI.o.below u;obtain⟨Il,Ci,rK,y8,mG⟩:=HF.o w2 F;have r4:=HR.o w2 F 4 (vI bk) rfl;have mm:=(u.cell (p:=⟨w.heap.size,0,none⟩) hs).trans q0;have dK:=Y7 hs u.size;have Eb:=Zbp w2 ⟨w.heap.size,0,none⟩ name mm dK (L.nv m) s.names (by rw[HV.o];simp only[Value.ownBlock,ne_eq,Option.some.injEq];omega) mG;rw[HV.o]at Eb Ci;obtain⟨HD,X,aN⟩:=ds Eb F (av.o.trans (u.mono (Nat.le_of_lt hs)))
    clear u F mG Eb q0 d1 d2 z2 Il mm;go_wp2_with fail
    refine HD.o.mono ?_;rintro e w3⟨v',rfl,p',lI,Im⟩;have jI:g≠L.sb m:=λe=>by
     have h1:=X.o.rnv m g dw QK;rw[e,X.o.rsb m dw]at h1;cases h1
    have d3:vC w3 (L.sb m) 2 (.slice (some ⟨g,0,none⟩) s.names.length c):=(Yb (lI.block (L.sb m) y8 (λe=>jI (Yc e).symm))).trans Ci;have z3:w3.frozen? ⟨L.sb m,2,none⟩=false:=(Yn (lI.block (L.sb m) y8 (λe=>jI (Yc e).symm))).trans rK;obtain⟨g',n',c',rfl⟩:∃g' n' c',v'=.slice g' n' c':=by
     rcases Z4 p' with⟨hv,_⟩|⟨g',c',hv,_⟩;·exact⟨_,_,_,hv⟩
     .exact⟨_,_,_,hv⟩
    obtain⟨LL,LM,LN⟩:=ds p' lI Im;clear p' lI Im Ci rK r4;go_wp2;go_ret;refine⟨rfl,?_⟩;obtain⟨ρ',O,hA,hF⟩:=Zph X.o HM.o LL.o (by rw[HV.o];exact LM.o) (by rw[HV.o];exact LN.o);exact⟨ρ',O,hA,(Fr.of_below cA aN.o).trans hF⟩
   .have Ea:(b.kind !=4)=true:=by simp[I]
    rw[Y3 I];clear I;obtain⟨bn,bv,bk,br⟩:=b;simp only at Ea;go_enter func140,ntmps140
    go_wp2_with fail
    refine HC.o.mono ?_;rintro e w1⟨rfl,rfl⟩;go_wp2_with fail
    refine Zth ?_;intro w1 q0 hs d1 d2 z2 aK eI av;go_wp2_with fail
    refine(Z.o w1 eI.o).mono ?_;rintro e w2⟨rfl,u⟩;have F:=eI.o.below u;have r4:=HR.o w2 F 4 (vI bk) rfl;have X:=lh F;have aN:=lh (av.o.trans (u.mono (Nat.le_of_lt hs)));clear u F q0 d1 d2 z2;go_wp2;go_ret;exact⟨rfl,ρ,L,X.o,Fr.of_below cA aN.o⟩
  .rw[Y3 aU]at hq;have hd:H.drop m name=H.cut s.object name:=by simp[LHeap.drop,hob,aU,hq]
   rw[hd];have lA:=λw1 (hh:HeapAt ρ w1 hb ho L H)=>Zlo hh s.object name;generalize(H.cut s.object name).2=er at lA ⊢;obtain⟨Ec,HH,HB⟩:=ds lA h1 y;clear h h1 hob U hm y dl hq lA hd;go_enter func140,ntmps140
   go_wp2_with fail
   refine HC.o.mono ?_;rintro e w1⟨rfl,rfl⟩;go_wp2_with fail
   refine Zth ?_;intro w1 q0 hs d1 d2 z2 aK eI av;go_wp2_with fail
   refine Z7 [0,2,4,6,8,10] [6,7] (λW=>vC W (L.sb m) 1 (vI s.object)/\vC W w.heap.size 0 (.string name)) ⟨d1,q0⟩ λ_=>?_;refine dU ?_
   iterate 6
    refine fa ?_
   refine Z0 ?_;go_wp2_with fail
   refine(Ec.o w1.drew eI.o.drew).mono ?_;rintro e w2⟨rfl,ρ',O,hA,hF⟩;have o5:=lh hA;have yP:=lh hF;clear hA hF;go_wp2;go_ret;exact⟨rfl,ρ',O,o5.o,(Fr.of_below cA av.o.drew).trans yP.o⟩
 .have J:H.has (m:Int) name=false:=by simpa using hq
  rw[J]at HA;have hd:H.drop m name=(H,true):=by
   rw[U]at J;unfold LHeap.drop;simp only[hob];split at J
   .rename_i aU;have :s.idx name=none:=by simpa using J
    rw[Y5 aU,this]
   .rename_i aU;rw[Y3 aU];simp[J]
  rw[hd];have HH:=lh h1;clear h h1 hob U hm y dl hq J hd;go_enter func140,ntmps140
  go_wp2_with fail
  refine HC.o.mono ?_;rintro e w1⟨rfl,rfl⟩;go_wp2_with fail
  refine HA.o.mono ?_;rintro e w1⟨rfl,hB⟩;have av:=lh hB;clear hB;go_wp2;go_ret;exact⟨rfl,ρ,L,HH.o.below av.o,Fr.of_below cA (Xm av.o)⟩
def Z8j(h:HeapAt ρ w hb ho L H)(code:Int)(hn:H.objects.length<1099511627776) :
 kC 15 #[.pointer (some ⟨hb,ho,none⟩),vI code] w λe w'=>e=.returned (vI H.objects.length)/\
  ∃ρ' L',HeapAt ρ' w' hb ho L' {H with objects:=H.objects++[⟨[],code⟩]}/\Fr ρ ρ' hb ho w w':=by
 obtain⟨i0,hi,aC,bo,bQ⟩:=info_parts YV;have iD:=h.cellO;have sm:=h.frO;have cA:=h.hbLt;have p:=h.rowO;have F:∀g,L.vo.ownBlock=some g->g<w.heap.size:=λg m=>(p.lt g m).2;have I:∀g,L.vo.ownBlock=some g->g≠hb:=λg m e=>by have:=h.rvo g m;rw[e,h.rhp]at this;cases this
 obtain⟨vs,y⟩:=zX L.vo
 obtain⟨sb,aK⟩:=zX (Am L.ob H.objects.length)
 obtain⟨n,J⟩:=zX H.objects.length
 rw[<-y,<-aK]at p;rw[<-y]at iD F I;rw[<-J]at hn p ⊢;obtain⟨HH,HV,HS,HN,HO,HL,HR⟩:=gw h y aK J p F I;clear h y aK J p F I;have U:∀X Y (w1:kV),((w.alloc X).alloc Y).grownBy w1 vs.ownBlock->w1.cell? ⟨hb,ho,none⟩=some vs/\w1.frozen? ⟨hb,ho,none⟩=false:=λX Y w1 m=>
  ⟨(m.cell_far ⟨hb, ho, none⟩ PB (fun e => HR.o hb e.symm rfl)).trans ((Zc PB).trans ((Zc cA).trans iD)),
   (m.frozen_far ⟨hb,ho,none⟩ PB (λe=>HR.o hb e.symm rfl)).trans ((TG PB).trans ((TG cA).trans sm))⟩
 have HA:=lh U;clear U;go_enter func15,ntmps15
 go_wp2_with (at_builtin;go_must (refine wpList_append_lies _ rfl (.tmp 9) (.tmp 13) 49 rfl 0 93 i0 (.pointer none) 1 8 underlying49 hi aC bo bQ rfl Py vs n sb rfl ((HO.o.alloc _).alloc _) ⟨w.heap.size+1,0,none⟩ 1 1 [vP w.heap.size] rfl rfl (Zzo _ _ _ _) PH Px PA Px Px (w.heap.size+2) PE ?_);intro g cap w1 Z O gM cV;obtain⟨jA,tD⟩:=HA.o _ _ _ O;have HG:=lh O;have HW:=lh Z;have HT:=lh gM;have uD:=lh cV;clear O Z gM cV)
 go_ret;refine⟨Zdn Px,?_⟩;have hA:kW w ((w.alloc (.cells #[.slice none 0 0,vI code] 96)).alloc (.cells #[vP w.heap.size] 93)):=((Y2 _ _).alloc (Y0 _) _).alloc PE _;refine Zzn ?_;intro aG k1 k2 k3 k4 k5 k6 k7 k8 k9 jB hv ym gJ h;refine h.addObject (nb:=w.heap.size) k1 ?_ ?_ (Y0 _) k7 ?_ k2 k3 ?_ ?_ k8 k9 jB;·exact Zwu
 .exact Zzy
 .intro b ah aA bj;rw[<-hv]at bj;exact k4 b ah aA bj
 .exact Xj
 .exact XX
def LHeap.code(H:LHeap)(n:Int):Int:=match H.object? n with|some o=>o.code|none=>0
def Zhy(h:HeapAt ρ w hb ho L H)(n:Int) :
 kC 53 #[.pointer (some ⟨hb,ho,none⟩),vI n] w λe w'=>e=.returned (vI (H.code n))/\w'=w:=by
 rcases hob:H.object? n with _|o
 .have HC:=lh (Z8h h n hob);have hd:H.code n=0:=by simp[LHeap.code,hob]
  rw[hd];clear h hob hd;go_enter func53,ntmps53
  exact Nj
 .obtain⟨m,rfl,hm⟩:∃m:Nat,n=m/\H.objects[m]?=some o:=by
   unfold LHeap.object? at hob;split at hob;·cases hob
   .exact⟨n.toNat,by omega,hob⟩
  have g:=getElem?_lt hm;have HC:=lh (Z7a h m g);have hd:H.code m=o.code:=by simp[LHeap.code,hob]
  rw[hd];have hc:w.cell? ⟨L.ob m,1,none⟩=some (vI o.code):=by have:=(h.obj m o hm).1;simp[vC,World.cell?,this]
  clear h hob hd hm;go_enter func53,ntmps53
  exact Nj
def LVal.true(v:LVal):Bool:=if v.kind=0\/v.kind=1 then false else if v.kind=2\/v.kind=3 then v.n !=0 else if v.kind=4 then !Zg v.s ⟨#[]⟩else Bool.true
def Zd7(w:kV)(v:LVal) :
 kC 82 #[v.agg] w λe w'=>e=.returned (.bool v.true)/\kW w w':=by
 obtain⟨k,n,s⟩:=v;simp only[LVal.agg,LVal.true];by_cases g:k=0
 .subst g;exact Vq
 by_cases k1:k=1
 .subst k1;exact Vq
 by_cases m:k=2
 .subst m;exact Vq
 by_cases p:k=3
 .subst p;exact Vq
 by_cases u:k=4
 .subst u;go_enter func82,ntmps82
  go_wp2;go_ret;refine⟨Zs8 ?_,(Y2 _ _).alloc (Y0 _) _⟩;simp;rw[<-Ti,show(⟨#[]⟩:kB).toList=[] by simp[ByteArray.toList_eq]];cases s.toList<;>rfl
 .have F:(k==0)=false:=by simp[g]
  have I:(k==1)=false:=Sa
  have J:(k==2)=false:=by simp[m]
  have O:(k==3)=false:=by simp[p]
  have U:(k==4)=false:=by simp[u]
  have y:(if k=0\/k=1 then false else if k=2\/k=3 then n !=0 else if k=4 then !Zg s ⟨#[]⟩else true)=true:=by simp[g,k1,m,p,u]
  rw[y];clear g k1 m p u y;go_enter func82,ntmps82
  go_wp2;go_ret;exact⟨rfl,(Y2 _ _).alloc (Y0 _) _⟩
end
def Zhr{α:Type}{f:α->List Value}{m:Nat}(hf:∀a,(f a).length=m){l:List α}{k:Nat}{a a':α}(hk:l[k]?=some a){j:Nat}(p:j<m){x:Value}(ha:f a'=(f a).set j x) :
 (l.flatMap f).set (k*m+j) x=(l.set k a').flatMap f:=by
 induction l generalizing k with
 |nil=>simp at hk
 |cons b l g=>
   cases k with
   |zero=>
     simp only[List.getElem?_cons_zero,Option.some.injEq]at hk;subst hk;refine Zvb ?_;rw[List.set_append_left _ _ (by rw[hf];omega),ha]
   |succ k=>
     simp only[List.getElem?_cons_succ]at hk;simp only[List.set_cons_succ,List.flatMap_cons];have e:(k+1)*m+j=(f b).length+(k*m+j):=Rf
     rw[e,List.set_append_right _ _ Px,Nat.add_sub_cancel_left,g hk]
def LHeap.start (H:LHeap) (n:Int) (name:kB) (v:LVal):LHeap×Int:=
 match H.scope? n with
 |none=>(H,7)
 |some s=>
   if 0<=s.object then(H,7)
   else
    match s.idx name with
    |none=>(H,7)
    |some k=>
      match s.names[k]? with
      |none=>(H,7)
      |some b=>(H.setNames n.toNat s (s.names.set k {b with v:=v,ready:=true}),0)
section
variable {ρ:Nat->Option Role}{w:kV}{hb ho:Nat}{L:HL}{H:LHeap}
def Zoi{w1:kV}{m k g c:Nat}{s:LScope}{b:LBind}{vk vn:Int}{vs:kB}(h:HeapAt ρ w1 hb ho L H)(hm:H.scopes[m]?=some s)(hp:s.names[k]?=some b)
 (hv:L.nv m=.slice (some ⟨g,0,none⟩) s.names.length c) :
 ∃ ρ' u, HeapAt ρ' ((((w1.setCell ⟨g, k * 6 + 1, none⟩ (vI vk)).setCell ⟨g, k * 6 + 1 + 1, none⟩ (vI vn)).setCell ⟨g, k * 6 + 1 + 2, none⟩ (.string vs)).setCell ⟨g, k * 6 + 5, none⟩ (.bool true)) hb ho u (H.setNames m s (s.names.set k { b with v := ⟨vk, vn, vs⟩, ready := true })) ∧
   Fr ρ ρ' hb ho w1 ((((w1.setCell ⟨g,k*6+1,none⟩ (vI vk)).setCell ⟨g,k*6+1+1,none⟩ (vI vn)).setCell ⟨g,k*6+1+2,none⟩ (.string vs)).setCell ⟨g,k*6+5,none⟩ (.bool true)):=by
 have dw:=getElem?_lt hm;have F:=getElem?_lt hp;obtain⟨I,p⟩:=h.scp m s hm;have J:g≠L.sb m:=λe=>by
  exact Xy
 rw[hv]at p;have hst:=((Z93 (f:=LBind.cells) (m:=6) (λ_=>rfl) p hp (j:=1) Px (x:=(vI vk)) (y:=(vI vn)) (z:=.string vs) (a':={b with v:=⟨vk,vn,vs⟩}) rfl).stored (k*6+5) (.bool true)).1;rw[Zhr (f:=LBind.cells) (m:=6) (λ_=>rfl) (k:=k) (a:={b with v:=⟨vk,vn,vs⟩}) (a':={b with v:=⟨vk,vn,vs⟩,ready:=true}) (by simp[F]) Px rfl,List.set_set]at hst
 have far:∀b,b≠g->((((w1.setCell ⟨g,k*6+1,none⟩ (vI vk)).setCell ⟨g,k*6+1+1,none⟩ (vI vn)).setCell ⟨g,k*6+1+2,none⟩ (.string vs)).setCell ⟨g,k*6+5,none⟩ (.bool true)).heap[b]?=w1.heap[b]?:=λb hb=>by
  rw[Y8 _ _ _ _ hb,Y8 _ _ _ _ hb,Y8 _ _ _ _ hb,Y8 _ _ _ _ hb]
 refine h.setNames hm (nv':=.slice (some ⟨g,0,none⟩) s.names.length c) (names':=s.names.set k {b with v:=⟨vk,vn,vs⟩,ready:=true}) ?_ ?_ PE ?_ ?_ rfl rfl rfl;·rw[far _ (Ne.symm J),<-hv];exact I
 .simp only[List.length_set];exact hst
 .exact Zsr
 .intro U O;rw[hv];exact .inl O
def Zml(h:HeapAt ρ w hb ho L H)(n:Int)(name:kB)(v:LVal) :
 kC 80 #[.pointer (some ⟨hb,ho,none⟩),vI n,.string name,v.agg] w λe w'=>e=.returned (da (H.start n name v).2)/\
  ∃ρ' Y,HeapAt ρ' w' hb ho Y (H.start n name v).1/\Fr ρ ρ' hb ho w w':=by
 have cA:=h.hbLt;obtain⟨vk,vn,vs⟩:=v;simp only[LVal.agg];refine Ut ?_;intro h1 cu;have q0:(w.alloc (.cells #[vI vk,vI vn,.string vs] 56)).cell? ⟨w.heap.size,0,none⟩=some (vI vk):=Ys _ _ _ 0;have q1:(w.alloc (.cells #[vI vk,vI vn,.string vs] 56)).cell? ⟨w.heap.size,1,none⟩=some (vI vn):=Ys _ _ _ 1;have q2:(w.alloc (.cells #[vI vk,vI vn,.string vs] 56)).cell? ⟨w.heap.size,2,none⟩=some (.string vs):=Ys _ _ _ 2
 have hs:w.heap.size<(w.alloc (.cells #[vI vk,vI vn,.string vs] 56)).heap.size:=PE
 rcases hob:H.scope? n with _|s
 .have HC:=lh (Vo h1 n hob);have hw:H.start n name ⟨vk,vn,vs⟩=(H,7):=by simp[LHeap.start,hob]
  rw[hw];have HH:=lh h1;have HB:=lh cu;clear h h1 cu hob hw q0 q1 q2;go_enter func80,ntmps80
  exact Tv
 obtain⟨m,rfl,hm⟩:=LHeap.scope?_some hob;have dw:=getElem?_lt hm;have HC:=lh (UX h1 m dw);refine VM ?_;intro jA;by_cases aU:0<=s.object
 .have hw:H.start m name ⟨vk,vn,vs⟩=(H,7):=by simp[LHeap.start,hob,aU]
  rw[hw];have HH:=lh h1;have HB:=lh cu;clear h h1 cu hob hw q0 q1 q2 hm;go_enter func80,ntmps80
  exact Tv
 have LO:s.object<0:=Px
 have I:=lh (λw1 (hh:HeapAt ρ w1 hb ho L H)=>Z73 hh m s hm name);rcases hk:s.idx name with _|k
 .have hw:H.start m name ⟨vk,vn,vs⟩=(H,7):=by simp[LHeap.start,hob,aU,hk]
  rw[hw];rw[hk]at I;simp only[Tm]at I;have HH:=lh h1;have HB:=lh cu;clear h h1 cu hob hw q0 q1 q2 hm hk aU;go_enter func80,ntmps80
  go_wp2_with fail
  refine HC.o.mono ?_;rintro e w1⟨rfl,rfl⟩;go_wp2_with fail
  refine(I.o _ HH.o).mono ?_;rintro e w2⟨rfl,ar⟩;have J:=lh ar;clear ar;go_wp2;go_ret;exact⟨rfl,ρ,L,HH.o.below J.o,Fr.of_below cA (HB.o.trans (J.o.mono (Nat.le_of_lt hs)))⟩
 obtain⟨b,hp,_⟩:=LScope.idx_some hk;have aX:=getElem?_lt hp;have hw:H.start m name ⟨vk,vn,vs⟩=(H.setNames m s (s.names.set k {b with v:=⟨vk,vn,vs⟩,ready:=true}),0):=by simp[LHeap.start,hob,aU,hk,hp]
 rw[hw];obtain⟨_,af⟩:=h.scp m s hm;rcases Z4 af with⟨hv,hz⟩|⟨g,c,hv,h2,h3,cV⟩;·omega
 obtain⟨pn,⟨pk,pm,ps⟩,uL,uW⟩:=b;refine Aak ?_;intro ae;have bu:=λw1 (hh:HeapAt ρ w1 hb ho L H) j=>Uf (hh.scp m s hm).2 (g:=g) PW j;have BR:g≠w.heap.size:=Px
 have U:=lh ae;have O:=lh bu;rw[hk,hv]at I;simp only[Tm,Value.ownBlock,Option.map_some]at I;obtain⟨HH,HB,HM,HP,HV⟩:=gp h1 cu hm hp hv;clear h h1 cu hob hw hm hk aU hp af hv ae bu;go_enter func80,ntmps80
 go_wp2_with fail
 refine HC.o.mono ?_;rintro e w1⟨rfl,dD⟩;rw[dD]at HH jA q0 q1 q2 hs HB;clear dD;go_wp2_with fail
 refine(I.o _ HH.o).mono ?_;rintro e w2⟨rfl,ar⟩;have fk:=HH.o.below ar;have X:=Y7 hs ar.size;refine Uh ?_;intro mm jm nW;have Z:=lh fk;have J:=lh (HB.o.trans (ar.mono (Nat.le_of_lt hs)));clear ar fk q0 q1 q2 jA HH HB;go_wp2_with fail
 refine(I.o _ Z.o).mono ?_;rintro e F⟨rfl,u⟩;have y:=Z.o.below u;have r1:=U.o F y 1 (vI pk) rfl;have r2:=U.o F y 2 (vI pm) rfl;have r3:=U.o F y 3 (.string ps) rfl;have r5:=U.o F y 5 (.bool uW) rfl;have z1:=O.o F y (k*6+1);have z2:=O.o F y (k*6+1+1);have z3:=O.o F y (k*6+1+2);have z5:=O.o F y (k*6+5);have z6:=O.o F y (k*6+3);have p0:=(u.cell (p:=⟨w.heap.size,0,none⟩) X).trans mm;have p1:=(u.cell (p:=⟨w.heap.size,1,none⟩) X).trans jm
 have p2:=(u.cell (p:=⟨w.heap.size,2,none⟩) X).trans nW;have LP:=lh y;have HB3:=lh (J.o.trans (u.mono (Nat.le_of_lt X)));clear u y mm jm nW Z J;go_wp2;go_ret;refine⟨rfl,?_⟩;obtain⟨ρ',Y,hA,hF⟩:=Zoi (vk:=vk) (vn:=vn) (vs:=vs) LP.o HM.o HP.o HV.o;exact⟨ρ',Y,hA,(Fr.of_below cA HB3.o).trans hF⟩
end
def HeapAt.fresh{ρ:Nat->Option Role}{w:kV}{hb ho:Nat}{L:HL}{H:LHeap}(h:HeapAt ρ w hb ho L H){b:Nat}(hb:w.heap.size<=b):ρ b=none:=by
 cases hr:ρ b with
 |none=>rfl
 |some r=>exact absurd (h.live b QV) Px
def Zp2(w:kV)(n:Int) :
 kC 114 #[vI n] w λe w'=>e=.returned (LVal.agg ⟨3,n,⟨#[]⟩⟩)/\kW w w':=by
 go_enter func114,ntmps114
 go_wp2;exact Yp (v:=LVal.agg ⟨3,n,⟨#[]⟩⟩) (by simp[results,results114,go_sem,LVal.agg]) rfl ⟨rfl,(Y2 _ _).alloc (Y0 _) _⟩
def Zbe(w:kV)(n:kB) :
 kC 115 #[.string n] w λe w'=>e=.returned (LVal.agg ⟨4,0,n⟩)/\kW w w':=by
 go_enter func115,ntmps115
 go_wp2;exact Yp (v:=LVal.agg ⟨4,0,n⟩) (by simp[results,results115,go_sem,LVal.agg]) rfl ⟨rfl,(Y2 _ _).alloc (Y0 _) _⟩
