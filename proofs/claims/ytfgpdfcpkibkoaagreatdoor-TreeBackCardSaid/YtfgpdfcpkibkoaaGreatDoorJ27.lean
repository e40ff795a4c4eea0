/- What a listed variable gives a walk: an array of rows of texts, second -/
import Derived.Test.YtfgpdfcpkibkoaaGreatDoorJ26
namespace Go.Proofs.YtfgpdfcpkibkoaaGreatDoor
open Go Go.RowKit
set_option maxRecDepth 100000
theorem Zgd {H:Type} {enc:TypeId×Value→H} {P:Program} {w:World} {base:Nat} {sp:Nat→Bool} {held:Bool} {fuel:Nat} {t e:TypeId} {n:Nat} {cs:List Value} {l:List (DataW H)} {p:List MemPlace}
 (ht:P.underlying t=some (.array n e)) (hce:P.cellsOf e=1) (hct:P.cellsOf t=n)
 (h:DataW.trod enc P w base sp held fuel t cs=some (.agg l,p)) (i:Nat) (r:DataW H) (hi:l[i]?=some r) :
 ∃ fuel' q,DataW.trod enc P w base sp held fuel' e ((cs.drop i).take 1)=some (r,q):=by
 cases fuel with
 | zero=>simp [DataW.trod] at h
 | succ fuel =>
   simp only [DataW.trod,ht,hce,hct,Nat.mul_one] at h;split at h
   ·rename_i hl;obtain ⟨xs,hm,hx⟩:=Option.map_eq_some_iff.1 h;have hxs:xs.map (·.1)=l:=by
     have:=congrArg Prod.fst hx;simpa using this
    have hxl:xs.length=n:=by simpa using Lib.mapM_length hm
    have hin:i < n:=by
     have h1:=(List.getElem?_eq_some_iff.1 hi).1;rw [← hxs,Yl] at h1;omega
    obtain ⟨b,hb,hf⟩:=Lib.mapM_at hm i i (by simp [hin]);have h2:(xs.map (·.1))[i]?=some b.1:=by simp [hb]
    rw [hxs,hi] at h2;exact ⟨fuel,b.2,by rw [Yc h2]; exact hf⟩
   ·cases h
theorem Z6z {P:Program} {W:World} {n1 name:String} {d1 d:DataW Unit} {rest:List (String×DataW Unit)} {g:Nat} {t e f:TypeId} {n:Nat} {l:List (List (List UInt8))}
 (hg:P.globalNamed name=some g) (hty:(P.globals[g]?).map (·.type)=some t) (ht:P.underlying t=some (.array n e)) (he:P.underlying e=some (.slice f)) (hf:P.underlying f=some .string)
 (hce:P.cellsOf e=1) (hcf:P.cellsOf f=1) (hct:P.cellsOf t=n)
 (hd:d=.agg (l.map fun r=>.slice (r.map fun b=>.lit (.string b)) [])) (h:laidMet P ((n1,d1) :: (name,d) :: rest) W) (i:Nat) (r:List (List UInt8)) (hi:l[i]?=some r) (hr:0 < r.length) :
 ∃ b off cap,W.cell? ⟨g,i,none⟩=some (.slice (some ⟨b,off,none⟩) r.length cap)∧r.length≤cap∧∀ j x,r[j]?=some x→W.cell? ⟨b,off + j,none⟩=some (.string ⟨x.toArray⟩):=by
 obtain ⟨ps,⟨_,_,_,_,_,_,_,_,_,_,h2,_⟩,_⟩:=h;obtain ⟨g',t',cs,fuel,p,q,hg',ht',hvar,hd',_,_⟩:=h2;obtain rfl:=Yc (hg.symm.trans hg');obtain rfl:=Yc (hty.symm.trans ht');rw [hd] at hd';obtain ⟨fuel',q',hrow⟩:=Zgd ht hce hct hd' i (.slice (r.map fun b=>.lit (.string b)) []) (by rw [Yg,hi]; rfl);obtain ⟨a,cap,hcs,hcap,hel⟩:=open_row he hcf hrow;rw [Yl] at hcs hcap;have hcell:W.cell? ⟨g,i,none⟩=some (.slice (some a) r.length cap):=by
  rw [World.var?_cell hg hvar i];have:=congrArg (·[0]?) hcs;simpa [List.getElem?_take,List.getElem?_drop] using this
 obtain ⟨b,off,spot⟩:=a;have hspot:spot=none:=by
  obtain ⟨x,hx⟩:∃ x,r[0]?=some x:=⟨r[0],Y6 hr⟩
  obtain ⟨v,n,q,hc,_⟩:=hel 0 _ (by rw [Yg,hx]; rfl);simpa [Addr.add] using World.cell?_spot hc
 subst hspot;refine ⟨b,off,cap,hcell,hcap,fun j x hx=>?_⟩;obtain ⟨v,n,q,hc,hr⟩:=hel j _ (by rw [Yg,hx]; rfl);rw [Zg8 hf hr] at hc;rwa [show ((⟨b,off,none⟩:Addr).add j)=⟨b,off + j,none⟩ by unfold Addr.add; split <;> simp_all] at hc
end Go.Proofs.YtfgpdfcpkibkoaaGreatDoor
