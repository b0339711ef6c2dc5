/- Part of the proofs over this seat: see the text that holds the theorem. Conditions: each theorem bears its own. -/
import Derived.Test.YtmompllplidphaaGreatDoorGB10Z
import Derived.Test.YtmompllplidphaaGreatDoorGSW2Z
import Derived.Test.YtmompllplidphaaGreatDoorMT26Z
import Derived.Test.YtmompllplidphaaGreatDoorGSW14Z
namespace Go.HL.cm
open Go Go.HL Go.HL.Kl Go.HL.Kl.Mc
def tk (w:List UInt8)(x:fk)(p i:Nat):Prop:=∃ b,w[i]?=some b∧(x.sets[p]?.getD 0).getLsbD b.toNat=true
def ed (x:fk)(p q:Nat):Prop:=(x.fol[p]?.getD 0).getLsbD q=true
def Rg (lo hi:Nat)(p:Nat):Prop:=lo≤p∧p<hi
structure fG (lo:Nat)(x y:fk):Prop where
 le:lo≤x.sets.length
 st:∃ t,y.sets=x.sets++t
 fo:∀ p:Nat,p<lo→y.fol[p]?=x.fol[p]?
 ln:y.fol.length=y.sets.length
structure Acc (w:List UInt8)(lo:Nat)(x:fk)(c:Pt)(D:Nat→Nat→Prop):Prop where
 le:lo≤x.sets.length
 ln:x.fol.length=x.sets.length
 fr:Fr w.length (ed x) (tk w x) (Rg lo x.sets.length) c D
theorem Fr.rg {N:Nat}{E T:Nat→Nat→Prop}{R R':Nat→Prop}{c:Pt}{D:Nat→Nat→Prop}(h:Fr N E T R c D)(hR:∀ p,R p↔R' p):Fr N E T R' c D:=by
 have:R=R':=funext fun p=>propext (hR p)
 rwa [← this]
theorem RA {w:List UInt8}{x y:fk}(h:∃ t,y.sets=x.sets++t){p:Nat}(hp:p<x.sets.length)(i:Nat):tk w x p i↔tk w y p i:=by
 obtain⟨t,ht⟩:=h
 unfold tk
 rw[ht,List.getElem?_append_left hp]
theorem nm {x:fk}{a b:Sp}{p q:Nat}(hp:p<x.fol.length):ed (x.join a b) p q↔ed x p q∨(a.getLsbD p=true∧b.getLsbD q=true):=by
 unfold ed fk.join fl
 simp only[List.getElem?_mapIdx,List.getElem?_eq_getElem hp,Option.map_some,Option.getD_some]
 cases e:a.getLsbD p <;> simp[BitVec.getLsbD_or]
theorem P8 {x y:fk}{p:Nat}(h:y.fol[p]?=x.fol[p]?)(q:Nat):ed x p q↔ed y p q:=by unfold ed;rw[h]
def Sem (w:List UInt8)(m:Mk)(n:Nat)(D:Nat→Nat→Prop):Prop:=∀ x:fk,x.fol.length=x.sets.length→x.sets.length+n≤24 →
 fG x.sets.length x (m x).2∧(m x).2.sets.length=x.sets.length+n∧Acc w x.sets.length (m x).2 (m x).1 D
theorem Acc.up {w:List UInt8}{lo:Nat}{x y:fk}{c:Pt}{D:Nat→Nat→Prop}(h:Acc w lo x c D)(hp:fG x.sets.length x y):Fr w.length (ed y) (tk w y) (Rg lo x.sets.length) c D:=
 h.fr.congr (fun p q hr=>P8 (hp.fo p hr.2) q) (fun p i hr=>RA hp.st hr.2 i)
theorem Gc (x:fk)(a b:Sp):(x.join a b).sets=x.sets:=rfl
theorem iI (x:fk)(a b:Sp):(x.join a b).fol.length=x.fol.length:=ef _ _ _
theorem pw {x:fk}{a b:Sp}{p:Nat}(ha:a.getLsbD p=false):(x.join a b).fol[p]?=x.fol[p]?:=by
 unfold fk.join fl
 simp only[List.getElem?_mapIdx]
 cases x.fol[p]? with
 | none=>rfl
 | some s=>simp[ha]
theorem Acc.cat {w:List UInt8}{lo n:Nat}{x:fk}{c:Pt}{m:Mk}{D1 D2:Nat→Nat→Prop}(h:Acc w lo x c D1)(hm:Sem w m n D2)(hr:x.sets.length+n≤24) :
   fG lo x (cU c m x).2∧(cU c m x).2.sets.length=x.sets.length+n∧Acc w lo (cU c m x).2 (cU c m x).1 (fun i j=>∃ t,D1 i t∧D2 t j):=by
 obtain⟨h1,h2,h3⟩:=hm x h.ln hr
 have hlf:(m x).2.fol.length=x.sets.length+n:=by rw[h3.ln,h2]
 have Ct:∀ p,c.l0.getLsbD p=true→Rg lo x.sets.length p:=fun p hp=>h.fr.rL false p hp
 refine⟨⟨h.le,h1.st,fun p hp=>?_,?_⟩,h2,⟨?_,?_,?_⟩⟩
 · show ((m x).2.join c.l0 (m x).1.f0).fol[p]?=_
   rw[pw,h1.fo p (by have:=h.le;omega)]
   cases e:c.l0.getLsbD p with
   | false=>rfl
   | true=>have:=Ct p e;unfold Rg at this;omega
 · show ((m x).2.join c.l0 (m x).1.f0).fol.length=(m x).2.sets.length
   rw[iI,h3.ln]
 · show lo≤(m x).2.sets.length
   have:=h.le;omega
 · show ((m x).2.join c.l0 (m x).1.f0).fol.length=(m x).2.sets.length
   rw[iI,h3.ln]
 · have hc:=Fr.cat (E':=ed ((m x).2.join c.l0 (m x).1.f0)) (h.up h1) h3.fr (fun p g1 g2=>by unfold Rg at g1 g2;omega)
     (fun p q hp=>nm (by unfold Rg at hp;omega))
     (fun p q hp=>by
       rw[nm (by unfold Rg at hp;omega)]
       constructor
       · rintro (g|⟨g,_⟩)
         · exact g
         · have:=Ct p g;unfold Rg at this hp;omega
       · exact .inl)
   refine hc.rg fun p=>?_
   show Rg _ _ p∨Rg _ _ p↔Rg lo (m x).2.sets.length p
   have:=h.le
   unfold Rg;omega
theorem Acc.jS {w:List UInt8}{lo n:Nat}{x:fk}{c:Pt}{m:Mk}{D1 D2:Nat→Nat→Prop}(h:Acc w lo x c D2)(hm:Sem w m n D1)(hr:x.sets.length+n≤24) :
   fG lo x (cm.jS m c x).2∧(cm.jS m c x).2.sets.length=x.sets.length+n∧Acc w lo (cm.jS m c x).2 (cm.jS m c x).1 (fun i j=>∃ t,D1 i t∧D2 t j):=by
 obtain⟨h1,h2,h3⟩:=hm x h.ln hr
 have hlf:(m x).2.fol.length=x.sets.length+n:=by rw[h3.ln,h2]
 have Ct:∀ p,(m x).1.l0.getLsbD p=true→Rg x.sets.length (m x).2.sets.length p:=fun p hp=>h3.fr.rL false p hp
 have hlo:∀ p,p<x.sets.length→((m x).2.join (m x).1.l0 c.f0).fol[p]?=(m x).2.fol[p]?:=fun p hp=>by
   rw[pw]
   cases e:(m x).1.l0.getLsbD p with
   | false=>rfl
   | true=>have:=Ct p e;unfold Rg at this;omega
 refine⟨⟨h.le,h1.st,fun p hp=>?_,?_⟩,h2,⟨?_,?_,?_⟩⟩
 · show ((m x).2.join (m x).1.l0 c.f0).fol[p]?=_
   rw[hlo p (by have:=h.le;omega),h1.fo p (by have:=h.le;omega)]
 · show ((m x).2.join (m x).1.l0 c.f0).fol.length=(m x).2.sets.length
   rw[iI,h3.ln]
 · show lo≤(m x).2.sets.length
   have:=h.le;omega
 · show ((m x).2.join (m x).1.l0 c.f0).fol.length=(m x).2.sets.length
   rw[iI,h3.ln]
 · have hc:=Fr.cat (E':=ed ((m x).2.join (m x).1.l0 c.f0)) h3.fr (h.up h1) (fun p g1 g2=>by unfold Rg at g1 g2;omega)
     (fun p q hp=>nm (by unfold Rg at hp;omega))
     (fun p q hp=>(P8 (hlo p hp.2) q).symm)
   refine hc.rg fun p=>?_
   show Rg _ _ p∨Rg _ _ p↔Rg lo (m x).2.sets.length p
   have:=h.le
   unfold Rg;omega
theorem Acc.mM {w:List UInt8}{lo n:Nat}{x:fk}{c:Pt}{m:Mk}{D1 D2:Nat→Nat→Prop}(h:Acc w lo x c D1)(hm:Sem w m n D2)(hr:x.sets.length+n≤24) :
   fG lo x (m x).2∧(m x).2.sets.length=x.sets.length+n∧Acc w lo (m x).2 (ib c (m x).1) (fun i j=>D1 i j∨D2 i j):=by
 obtain⟨h1,h2,h3⟩:=hm x h.ln hr
 refine⟨⟨h.le,h1.st,fun p hp=>h1.fo p (by have:=h.le;omega),h3.ln⟩,h2,⟨by have:=h.le;omega,h3.ln,?_⟩⟩
 refine (Fr.alt (h.up h1) h3.fr (fun p g1 g2=>by unfold Rg at g1 g2;omega)).rg fun p=>?_
 have:=h.le
 unfold Rg;omega
theorem EC {N:Nat}{E T:Nat→Nat→Prop}:Fr N E T (fun _=>False) bu (fun i j=>i=j) where
 rF:=fun b p h=>by cases b <;> simp[iY,bu] at h
 rL:=fun b p h=>by cases b <;> simp[jT,bu] at h
 rE:=fun p q h=>h.elim
 nl:=fun i hi=>by simp only[true_iff];cases decide (i=0) <;> cases decide (i=N) <;> rfl
 ph:=fun i j nn hj=>by
   constructor
   · intro h;omega
   · rintro⟨p,q,h,_⟩
     exfalso
     cases decide (i=0) <;> simp[iY,bu] at h
 ui:=fun i j hi h=>by omega
theorem NA {N:Nat}{E T:Nat→Nat→Prop}:Fr N E T (fun _=>False) bN (fun _ _=>False) where
 rF:=fun b p h=>by cases b <;> simp[iY,bN] at h
 rL:=fun b p h=>by cases b <;> simp[jT,bN] at h
 rE:=fun p q h=>h.elim
 nl:=fun i hi=>by simp only[false_iff];cases decide (i=0) <;> cases decide (i=N) <;> simp[zX,bN]
 ph:=fun i j nn hj=>by
   constructor
   · exact False.elim
   · rintro⟨p,q,h,_⟩
     cases decide (i=0) <;> simp[iY,bN] at h
 ui:=fun i j hi h=>h.elim
theorem px {w:List UInt8}{x:fk}(h:x.fol.length=x.sets.length):Acc w x.sets.length x bu (fun i j=>i=j):=⟨Nat.le_refl _,h,EC.rg fun p=>⟨False.elim,fun h=>by unfold Rg at h;omega⟩⟩
theorem uj {w:List UInt8}{x:fk}(h:x.fol.length=x.sets.length):Acc w x.sets.length x bN (fun _ _=>False):=⟨Nat.le_refl _,h,NA.rg fun p=>⟨False.elim,fun h=>by unfold Rg at h;omega⟩⟩
theorem Acc.WI {w:List UInt8}{lo:Nat}{x:fk}{c:Pt}{D:Nat→Nat→Prop}(h:Acc w lo x c D):Acc w lo x (ib bu c) (fun i j=>i=j∨D i j):=⟨h.le,h.ln,(Fr.alt EC h.fr fun p g _=>g).rg fun p=>⟨fun g=>g.elim False.elim id,.inr⟩⟩
theorem Acc.iff {w:List UInt8}{lo:Nat}{x:fk}{c:Pt}{D D':Nat→Nat→Prop}(h:Acc w lo x c D)(hD:∀ i j,i≤w.length→(D i j↔D' i j)):Acc w lo x c D':=⟨h.le,h.ln,h.fr.iff hD⟩
theorem fG.trans {lo:Nat}{x y z:fk}(h:fG lo x y)(h':fG lo y z):fG lo x z:=by
 obtain⟨t,ht⟩:=h.st
 obtain⟨u,hu⟩:=h'.st
 exact⟨h.le,⟨t++u,by rw[hu,ht,List.append_assoc]⟩,fun p hp=>(h'.fo p hp).trans (h.fo p hp),h'.ln⟩
theorem fG.refl {lo:Nat}{x:fk}(h:lo≤x.sets.length)(hl:x.fol.length=x.sets.length):fG lo x x:=⟨h,⟨[],by simp⟩,fun _ _=>rfl,hl⟩
theorem Acc.iter {w:List UInt8}{m:Mk}{n:Nat}{D:Nat→Nat→Prop}(hm:Sem w m n D):∀ (k:Nat){lo:Nat}{x:fk}{c:Pt}{D0:Nat→Nat→Prop},Acc w lo x c D0→x.sets.length+k*n≤24 →
   fG lo x (iterM (fun c=>cU c m) k c x).2∧(iterM (fun c=>cU c m) k c x).2.sets.length=x.sets.length+k*n∧Acc w lo (iterM (fun c=>cU c m) k c x).2 (iterM (fun c=>cU c m) k c x).1 (fun i j=>∃ t,D0 i t∧pow D k t j)
 | 0,lo,x,c,D0,h,_=>⟨fG.refl h.le h.ln,by simp[iterM],h.iff fun i j _=>⟨fun g=>⟨j,g,rfl⟩,fun⟨t,g,e⟩=>(show t=j from e) ▸ g⟩⟩
 | k+1,lo,x,c,D0,h,hr=>by
   rw[Nat.succ_mul] at hr ⊢
   obtain⟨h1,h2,h3⟩:=h.cat hm (by omega)
   obtain⟨g1,g2,g3⟩:=Acc.iter hm k h3 (by omega)
   refine⟨h1.trans g1,by show (iterM (fun c=>cU c m) k (cU c m x).1 (cU c m x).2).2.sets.length=_;omega,g3.iff fun i j _=>?_⟩
   constructor
   · rintro⟨t,⟨s,a,b⟩,c⟩;exact⟨s,a,t,b,c⟩
   · rintro⟨s,a,t,b,c⟩;exact⟨t,⟨s,a,b⟩,c⟩
theorem Acc.more {w:List UInt8}{m:Mk}{n:Nat}{D:Nat→Nat→Prop}(hm:Sem w m n D):∀ (k:Nat){lo:Nat}{x:fk}{c:Pt}{e:Nat},Acc w lo x c (fun i j=>∃ r,r≤e∧pow D r i j)→x.sets.length+k*n≤24 →
   fG lo x (iterM (fb m) k c x).2∧(iterM (fb m) k c x).2.sets.length=x.sets.length+k*n∧Acc w lo (iterM (fb m) k c x).2 (iterM (fb m) k c x).1 (fun i j=>∃ r,r≤e+k∧pow D r i j)
 | 0,lo,x,c,e,h,_=>⟨fG.refl h.le h.ln,by simp[iterM],h⟩
 | k+1,lo,x,c,e,h,hr=>by
   rw[Nat.succ_mul] at hr ⊢
   obtain⟨h1,h2,h3⟩:=h.jS hm (by omega)
   have h4:Acc w lo (fb m c x).2 (fb m c x).1 (fun i j=>∃ r,r≤e+1∧pow D r i j):=h3.WI.iff fun i j _=>by
     constructor
     · rintro (rfl|⟨t,a,r,hr,b⟩)
       · exact⟨0,by omega,rfl⟩
       · exact⟨r+1,by omega,t,a,b⟩
     · rintro⟨r,hr,a⟩
       cases r with
       | zero=>exact .inl a
       | succ r=>obtain⟨t,b,c⟩:=a;exact .inr ⟨t,b,r,by omega,c⟩
   obtain⟨g1,g2,g3⟩:=Acc.more hm k (e:=e+1) h4 (by show (cm.jS m c x).2.sets.length+_≤_;omega)
   refine⟨h1.trans g1,by show (iterM (fb m) k (fb m c x).1 (fb m c x).2).2.sets.length=_;rw[g2];show (cm.jS m c x).2.sets.length+_=_;omega,g3.iff fun i j _=>?_⟩
   rw[show e+(k+1)=e+1+k by omega]
theorem Acc.join {w:List UInt8}{lo:Nat}{x y:fk}{c b:Pt}{D1 D2:Nat→Nat→Prop}(h:Acc w lo x c D1)(h1:fG x.sets.length x y)(h3:Acc w x.sets.length y b D2) :
   fG lo x (y.join c.l0 b.f0)∧Acc w lo (y.join c.l0 b.f0) (ji c b) (fun i j=>∃ t,D1 i t∧D2 t j):=by
 have Ct:∀ p,c.l0.getLsbD p=true→Rg lo x.sets.length p:=fun p hp=>h.fr.rL false p hp
 have hle:=h3.le
 have nT:=h3.ln
 refine⟨⟨h.le,h1.st,fun p hp=>?_,by rw[iI];exact h3.ln⟩,⟨by show lo≤y.sets.length;have:=h.le;omega,by rw[iI];exact h3.ln,?_⟩⟩
 · rw[pw,h1.fo p (by have:=h.le;omega)]
   cases e:c.l0.getLsbD p with
   | false=>rfl
   | true=>have:=Ct p e;unfold Rg at this;omega
 · have hc:=Fr.cat (E':=ed (y.join c.l0 b.f0)) (h.up h1) h3.fr (fun p g1 g2=>by unfold Rg at g1 g2;omega)
     (fun p q hp=>nm (by unfold Rg at hp;omega))
     (fun p q hp=>by
       rw[nm (by unfold Rg at hp;omega)]
       constructor
       · rintro (g|⟨g,_⟩)
         · exact g
         · have:=Ct p g;unfold Rg at this hp;omega
       · exact .inl)
   refine hc.rg fun p=>?_
   show Rg _ _ p∨Rg _ _ p↔Rg lo y.sets.length p
   have:=h.le
   unfold Rg;omega
theorem Acc.star {w:List UInt8}{lo:Nat}{x:fk}{c:Pt}{D:Nat→Nat→Prop}(h:Acc w lo x c D):fG lo x (x.join c.l0 c.f0)∧Acc w lo (x.join c.l0 c.f0) (ib bu c) (fun i j=>∃ k,pow D k i j):=by
 have Ct:∀ p,c.l0.getLsbD p=true→Rg lo x.sets.length p:=fun p hp=>h.fr.rL false p hp
 have nT:=h.ln
 refine⟨⟨h.le,⟨[],by simp[Gc]⟩,fun p hp=>?_,by rw[iI];exact h.ln⟩,?_⟩
 · rw[pw]
   cases e:c.l0.getLsbD p with
   | false=>rfl
   | true=>have:=Ct p e;unfold Rg at this;omega
 · have hp:=Fr.plus (E':=ed (x.join c.l0 c.f0)) h.fr (fun p q hp=>nm (by unfold Rg at hp;omega))
   have ha:Acc w lo (x.join c.l0 c.f0) c (fun i j=>∃ k,1≤k∧pow D k i j):=⟨h.le,by rw[iI];exact h.ln,hp⟩
   refine ha.WI.iff fun i j _=>?_
   constructor
   · rintro (rfl|⟨k,_,g⟩)
     · exact⟨0,rfl⟩
     · exact⟨k,g⟩
   · rintro⟨k,g⟩
     cases k with
     | zero=>exact .inl g
     | succ k=>exact .inr ⟨k+1,by omega,g⟩
theorem pow_add {D:Nat→Nat→Prop}:∀ (a b i j:Nat),(∃ t,pow D a i t∧pow D b t j)↔pow D (a+b) i j
 | 0,b,i,j=>by
   rw[Nat.zero_add]
   exact⟨fun⟨t,e,h⟩=>(show i=t from e) ▸ h,fun h=>⟨i,rfl,h⟩⟩
 | a+1,b,i,j=>by
   rw[show a+1+b=(a+b)+1 by omega]
   constructor
   · rintro⟨t,⟨m,h1,h2⟩,h3⟩
     exact⟨m,h1,(pow_add a b m j).1 ⟨t,h2,h3⟩⟩
   · rintro⟨m,h1,h2⟩
     obtain⟨t,h3,h4⟩:=(pow_add a b m j).2 h2
     exact⟨t,⟨m,h1,h3⟩,h4⟩
theorem NB {w:List UInt8}{m:Mk}{n:Nat}{D:Nat→Nat→Prop}(hm:Sem w m n D){nd:Nd}(h0:0≤nd.mn)(h1:nd.mx = -1∨nd.mn≤nd.mx):Sem w (py m nd.mn nd.mx) (pz nd*n) (rounds nd D):=by
 intro x hx hr
 unfold pz at hr ⊢
 by_cases jU:nd.mx<0
 · rw[if_pos jU,Nat.succ_mul] at hr ⊢
   rw[pA jU]
   obtain⟨a1,a2,a3⟩:=Acc.iter hm nd.mn.toNat (px (w:=w) hx) (by omega)
   obtain⟨b1,b2,b3⟩:=hm (iterM (fun c=>cU c m) nd.mn.toNat bu x).2 a3.ln (by omega)
   obtain⟨s1,s2⟩:=b3.star
   have hp:fG (iterM (fun c=>cU c m) nd.mn.toNat bu x).2.sets.length (iterM (fun c=>cU c m) nd.mn.toNat bu x).2 ((m (iterM (fun c=>cU c m) nd.mn.toNat bu x).2).2.join (m (iterM (fun c=>cU c m) nd.mn.toNat bu x).2).1.l0 (m (iterM (fun c=>cU c m) nd.mn.toNat bu x).2).1.f0):=⟨Nat.le_refl _,b1.st,fun p hp=>(s1.fo p hp).trans (b1.fo p hp),s1.ln⟩
   obtain⟨j1,j2⟩:=a3.join hp s2
   refine⟨a1.trans j1,by show (m (iterM (fun c=>cU c m) nd.mn.toNat bu x).2).2.sets.length=_;omega,j2.iff fun i j _=>?_⟩
   unfold rounds
   constructor
   · rintro⟨t,⟨s,rfl,h2⟩,k,h3⟩
     exact⟨nd.mn.toNat+k,by omega,.inl (by omega),(pow_add _ _ _ _).1 ⟨t,h2,h3⟩⟩
   · rintro⟨k,hk,_,h2⟩
     obtain⟨t,h3,h4⟩:=(pow_add nd.mn.toNat (k-nd.mn.toNat) i j).2 (by rw[show nd.mn.toNat+(k-nd.mn.toNat)=k by omega];exact h2)
     exact⟨t,⟨i,rfl,h3⟩,_,h4⟩
 · rw[if_neg jU] at hr ⊢
   rw[pB jU]
   have hmul:nd.mx.toNat*n=nd.mn.toNat*n+(nd.mx-nd.mn).toNat*n:=by rw[← Nat.add_mul];congr 1;omega
   rw[hmul] at hr ⊢
   obtain⟨a1,a2,a3⟩:=Acc.iter hm nd.mn.toNat (px (w:=w) hx) (by omega)
   have mq:Acc w (iterM (fun c=>cU c m) nd.mn.toNat bu x).2.sets.length (iterM (fun c=>cU c m) nd.mn.toNat bu x).2 bu (fun i j=>∃ r,r≤0∧pow D r i j):=(px a3.ln).iff fun i j _=>⟨fun e=>⟨0,Nat.le_refl _,e⟩,fun⟨r,h,g⟩=>by obtain rfl:r=0:=(by omega);exact g⟩
   obtain⟨b1,b2,b3⟩:=Acc.more hm (nd.mx-nd.mn).toNat mq (by omega)
   obtain⟨j1,j2⟩:=a3.join b1 b3
   refine⟨a1.trans j1,by show (iterM (fb m) (nd.mx-nd.mn).toNat bu (iterM (fun c=>cU c m) nd.mn.toNat bu x).2).2.sets.length=_;omega,j2.iff fun i j _=>?_⟩
   unfold rounds
   constructor
   · rintro⟨t,⟨s,rfl,h2⟩,k,hk,h3⟩
     exact⟨nd.mn.toNat+k,by omega,.inr (by omega),(pow_add _ _ _ _).1 ⟨t,h2,h3⟩⟩
   · rintro⟨k,hk,hk2,h2⟩
     obtain⟨t,h3,h4⟩:=(pow_add nd.mn.toNat (k-nd.mn.toNat) i j).2 (by rw[show nd.mn.toNat+(k-nd.mn.toNat)=k by omega];exact h2)
     exact⟨t,⟨i,rfl,h3⟩,_,by omega,h4⟩
theorem NC {w:List UInt8}(s:Kl.Cl):Sem w (mN s) 1 (fun i j=>j=i+1∧∃ b,w[i]?=some b∧s.getLsbD b.toNat=true):=by
 intro x hx hr
 refine⟨⟨Nat.le_refl _,⟨[s],rfl⟩,fun p hp=>by show (x.fol++[0])[p]?=_;rw[List.getElem?_append_left (by omega)],by simp[mN,hx]⟩,by simp[mN],⟨by simp[mN],by simp[mN,hx],?_⟩⟩
 have Gd:∀ p,(xd x.sets.length).getLsbD p=true→p=x.sets.length:=fun p hp=>by
   rcases Nat.lt_or_ge p 24 with h|h
   · rw[s5 h] at hp;simpa using hp
   · rw[BitVec.getLsbD_of_ge _ _ h] at hp;cases hp
 have hpi:(xd x.sets.length).getLsbD x.sets.length=true:=by rw[s5 (by omega)];simp
 have mq:∀ q,¬ ed (mN s x).2 x.sets.length q:=fun q h=>by
   unfold ed mN at h
   rw[List.getElem?_append_right (by omega),hx,Nat.sub_self] at h
   simp at h
 have Ge:∀ i,tk w (mN s x).2 x.sets.length i↔∃ b,w[i]?=some b∧s.getLsbD b.toNat=true:=fun i=>by
   unfold tk mN
   rw[List.getElem?_append_right (by omega),Nat.sub_self];rfl
 refine⟨fun b p h=>?_,fun b p h=>?_,fun p q hp he=>?_,fun i hi=>?_,fun i j nn hj=>?_,fun i j hi h=>?_⟩
 · have:=Gd p (by cases b <;> exact h)
   subst this
   exact⟨Nat.le_refl _,by simp[mN]⟩
 · have:=Gd p (by cases b <;> exact h)
   subst this
   exact⟨Nat.le_refl _,by simp[mN]⟩
 · unfold Rg at hp
   have:p=x.sets.length:=by simp[mN] at hp;omega
   subst this
   exact absurd he (mq q)
 · constructor
   · rintro⟨h,_⟩;omega
   · intro h;cases decide (i=0) <;> cases decide (i=w.length) <;> simp[zX,mN] at h
 · constructor
   · rintro⟨rfl,h⟩
     exact⟨x.sets.length,x.sets.length,by cases decide (i=0) <;> exact hpi,.one ((Ge i).2 h),by cases decide (i+1=w.length) <;> exact hpi⟩
   · rintro⟨p,q,g1,g2,g3⟩
     have:=Gd p (by revert g1;cases decide (i=0) <;> exact id)
     subst this
     cases g2 with
     | one ht=>exact⟨rfl,(Ge i).1 ht⟩
     | step _ he _=>exact absurd he (mq _)
 · obtain⟨rfl,b,hb,_⟩:=h
   have:=(List.getElem?_eq_some_iff.1 hb).1
   omega
theorem Gf {w:List UInt8}:Sem w (fun x=>({ bN with n10:=true,n11:=true },x)) 0 (fun i j=>i=0∧j=0):=by
 intro x hx _
 refine⟨fG.refl (Nat.le_refl _) hx,rfl,⟨Nat.le_refl _,hx,?_⟩⟩
 refine⟨fun b p h=>?_,fun b p h=>?_,fun p q hp=>?_,fun i hi=>?_,fun i j nn hj=>?_,fun i j hi h=>by omega⟩
 · cases b <;> simp[iY,bN] at h
 · cases b <;> simp[jT,bN] at h
 · unfold Rg at hp;dsimp only at hp;omega
 · by_cases h0:i=0
   · subst h0
     simp only[and_self,true_iff,decide_true]
     cases decide (0=w.length) <;> rfl
   · rw[decide_eq_false h0]
     constructor
     · rintro⟨h,_⟩;exact absurd h h0
     · intro h;cases decide (i=w.length) <;> simp[zX,bN] at h
 · constructor
   · rintro⟨_,_⟩;omega
   · rintro⟨p,q,h,_⟩;exfalso;cases decide (i=0) <;> simp[iY,bN] at h
theorem ND {w:List UInt8}:Sem w (fun x=>({ bN with n01:=true,n11:=true },x)) 0 (fun i j=>i=w.length∧j=i):=by
 intro x hx _
 refine⟨fG.refl (Nat.le_refl _) hx,rfl,⟨Nat.le_refl _,hx,?_⟩⟩
 refine⟨fun b p h=>?_,fun b p h=>?_,fun p q hp=>?_,fun i hi=>?_,fun i j nn hj=>?_,fun i j hi h=>by omega⟩
 · cases b <;> simp[iY,bN] at h
 · cases b <;> simp[jT,bN] at h
 · unfold Rg at hp;dsimp only at hp;omega
 · by_cases h0:i=w.length
   · rw[decide_eq_true h0]
     simp only[h0,and_self,true_iff]
     cases decide (w.length=0) <;> rfl
   · rw[decide_eq_false h0]
     constructor
     · rintro⟨h,_⟩;exact absurd h h0
     · intro h;cases decide (i=0) <;> simp[zX,bN] at h
 · constructor
   · rintro⟨_,_⟩;omega
   · rintro⟨p,q,h,_⟩;exfalso;cases decide (i=0) <;> simp[iY,bN] at h
def uk:F→Prop
 | .nil=>True
 | .nd x ks r=>¬ x.op=8∧uk ks∧uk r
theorem s6:∀ (f:F),(∀ y∈f.flat,¬ y.op=8)→uk f
 | .nil,_=>trivial
 | .nd x ks r,h=>⟨h x (by simp[F.flat]),s6 ks fun y hy=>h y (by simp[F.flat,hy]),s6 r fun y hy=>h y (by simp[F.flat,hy])⟩
def WJ (w:List UInt8)(f:F):Prop:=∀ (b:Bool){lo:Nat}{x:fk}{c:Pt}{D:Nat→Nat→Prop},Acc w lo x c D→x.sets.length+gB f≤24 →
 fG lo x (dx f b c x).2∧(dx f b c x).2.sets.length=x.sets.length+gB f∧Acc w lo (dx f b c x).2 (dx f b c x).1 (fun i j=>if b=true then D i j∨kn w f true i j else ∃ t,D i t∧kn w f false t j)
theorem ED {w:List UInt8}{n:Nd}{ks:F}(hw:(F.nd n ks .nil).wf)(h8:¬ n.op=8)(hk:WJ w ks)(hy:∀ y js,ks = .nd y js .nil→Sem w (aZ y js) (eM y js) (fw w y js)):Sem w (aZ n ks) (eM n ks) (fw w n ks):=by
 by_cases h1:n.op=1
 · intro x hx hr
   rw[qR h1,Am h1] at *
   obtain⟨a,b,c⟩:=NC (w:=w) n.set x hx (by omega)
   exact⟨a,b,c.iff fun i j _=>by rw[ei];simp[h1]⟩
 by_cases h2:n.op=2
 · intro x hx hr
   have hc:eM n ks=0:=by simp[eM,h2]
   rw[mO h2,hc]
   obtain⟨a,b,c⟩:=Gf (w:=w) x hx (by omega)
   exact⟨a,b,c.iff fun i j _=>by rw[ei];simp[h2]⟩
 by_cases h3:n.op=3
 · intro x hx hr
   have hc:eM n ks=0:=by simp[eM,h3]
   rw[qS h3,hc]
   obtain⟨a,b,c⟩:=ND (w:=w) x hx (by omega)
   exact⟨a,b,c.iff fun i j _=>by rw[ei];simp[h3]⟩
 by_cases h4:n.op=4
 · intro x hx hr
   rw[np (.inl h4)] at hr ⊢
   rw[qT h4]
   obtain⟨a,b,c⟩:=hk false (px (w:=w) hx) hr
   exact⟨a,b,c.iff fun i j _=>by rw[ei];simp[h4]⟩
 by_cases h5:n.op=5
 · intro x hx hr
   rw[np (.inr (.inl h5))] at hr ⊢
   rw[qU h5]
   obtain⟨a,b,c⟩:=hk true (uj (w:=w) hx) hr
   exact⟨a,b,c.iff fun i j _=>by rw[ei];simp[h5]⟩
 by_cases h6:n.op=6
 · obtain⟨y,js,rfl⟩:=eN hw (.inl h6)
   have hf:=um hw.1 h6
   have kF:n.mx = -1∨n.mn≤n.mx:=by
     have h7:=hw.1
     simp only[eH,Bool.and_eq_true] at h7
     have:=(dy.1 h7.1).2.2.2.1 h6
     omega
   intro x hx hr
   rw[An h6,j0] at hr ⊢
   rw[qV h6]
   obtain⟨a,b,c⟩:=NB (hy y js rfl) hf.1 kF x hx hr
   refine⟨a,b,c.iff fun i j _=>?_⟩
   rw[ei]
   simp only[h6]
   exact Iff.rfl
 by_cases h7:n.op=7
 · obtain⟨y,js,rfl⟩:=eN hw (.inr h7)
   intro x hx hr
   rw[np (.inr (.inr h7)),j0] at hr ⊢
   rw[mP h7]
   obtain⟨a,b,c⟩:=hy y js rfl x hx hr
   refine⟨a,b,c.iff fun i j _=>?_⟩
   rw[ei (x:=n)]
   simp only[h7]
   exact Iff.rfl
 · exfalso
   have h7':=hw.1
   simp only[eH,Bool.and_eq_true] at h7'
   have:=(dy.1 h7'.1).1
   omega
theorem kL (w:List UInt8):∀ (f:F),f.wf→uk f→WJ w f
 | .nil,_,_=>fun b lo x c D h _=>⟨fG.refl h.le h.ln,rfl,h.iff fun i j _=>by cases b <;> simp[kn]⟩
 | .nd n ks r,hw,hn=>fun b lo x c D h hr=>by
   have hp:Sem w (aZ n ks) (eM n ks) (fw w n ks):=ED ⟨hw.1,hw.2.1,hw.2.2.1,trivial⟩ hn.1 (kL w ks hw.2.2.1 hn.2.1) fun y js e=>by
     subst e
     intro x hx hr
     have sB:=kL w (.nd y js .nil) hw.2.2.1 hn.2.1 true (uj (w:=w) hx) (by rw[j0];exact hr)
     rw[pC,j0] at sB
     obtain⟨a,b,c⟩:=sB
     exact⟨a,b,c.iff fun i j _=>by rw[if_pos rfl,pD,pE];simp⟩
   rw[s7] at hr ⊢
   cases b with
   | false=>
     rw[qW]
     obtain⟨a1,a2,a3⟩:=h.cat hp (by omega)
     obtain⟨b1,b2,b3⟩:=kL w r hw.2.2.2 hn.2.2 false a3 (by omega)
     refine⟨a1.trans b1,by omega,b3.iff fun i j _=>?_⟩
     simp only[Bool.false_eq_true,if_false]
     constructor
     · rintro⟨t,⟨s,g1,g2⟩,g3⟩;exact⟨s,g1,pF.2 ⟨t,g2,g3⟩⟩
     · rintro⟨s,g1,g2⟩
       obtain⟨t,g3,g4⟩:=pF.1 g2
       exact⟨t,⟨s,g1,g3⟩,g4⟩
   | true=>
     rw[qX]
     obtain⟨a1,a2,a3⟩:=h.mM hp (by omega)
     obtain⟨b1,b2,b3⟩:=kL w r hw.2.2.2 hn.2.2 true a3 (by omega)
     refine⟨a1.trans b1,by omega,b3.iff fun i j _=>?_⟩
     simp only[if_true]
     rw[pD]
     exact or_assoc
theorem IW {w:List UInt8}{n:Nd}{ks:F}(hw:(F.nd n ks .nil).wf)(hn:uk (.nd n ks .nil)):Sem w (aZ n ks) (eM n ks) (fw w n ks):=
 ED hw hn.1 (kL w ks hw.2.2.1 hn.2.1) fun y js e=>by
   subst e
   intro x hx hr
   have sB:=kL w (.nd y js .nil) hw.2.2.1 hn.2.1 true (uj (w:=w) hx) (by rw[j0];exact hr)
   rw[pC,j0] at sB
   obtain⟨a,b,c⟩:=sB
   exact⟨a,b,c.iff fun i j _=>by rw[if_pos rfl,pD,pE];simp⟩
def jV (m:Mk)(L:List Kl.Cl):Prop:=∀ x s,s∈(m x).2.sets→s∈x.sets∨s∈L
theorem jV.cat {m:Mk}{L:List Kl.Cl}(h:jV m L)(c:Pt):jV (cU c m) L:=h
theorem jV.jS {m:Mk}{L:List Kl.Cl}(h:jV m L)(c:Pt):jV (cm.jS m c) L:=h
theorem jV.iter {f:Pt→Mk}{L:List Kl.Cl}(h:∀ c,jV (f c) L):∀ k c,jV (iterM f k c) L
 | 0,c=>fun x s hs=>.inl hs
 | k+1,c=>fun x s hs=>by
   rcases jV.iter h k _ _ s hs with h1|h1
   · exact h c x s h1
   · exact .inr h1
theorem jV.rep {m:Mk}{L:List Kl.Cl}(h:jV m L)(mn mx:Int):jV (py m mn mx) L:=by
 intro x s hs
 have hi:=jV.iter (f:=fun c=>cU c m) (fun c=>h.cat c) mn.toNat bu x s
 by_cases hn:mx<0
 · rw[pA hn] at hs
   rcases h _ s hs with h1|h1
   · exact hi h1
   · exact .inr h1
 · rw[pB hn] at hs
   rcases jV.iter (f:=fb m) (fun c=>h.jS c) (mx-mn).toNat bu _ s hs with h1|h1
   · exact hi h1
   · exact .inr h1
theorem Aw (n:Nd)(l:List Nd):∀ s∈bB l,s∈bB (n::l):=by
 intro s hs
 simp only[bB,List.mem_map,List.mem_filter] at hs ⊢
 obtain⟨y,⟨h1,h2⟩,h3⟩:=hs
 exact⟨y,⟨List.mem_cons_of_mem _ h1,h2⟩,h3⟩
theorem lR {a b:List Nd}{s:Kl.Cl}:s∈bB (a++b)↔s∈bB a∨s∈bB b:=by
 simp[bB,or_and_right,exists_or]
theorem jV.mono {m:Mk}{L L':List Kl.Cl}(h:jV m L)(hl:∀ s∈L,s∈L'):jV m L':=fun x s hs=>(h x s hs).imp id (hl s)
theorem Ax {n:Nd}{ks:F}(hk:∀ b c,jV (dx ks b c) (bB ks.flat)):jV (aZ n ks) (bB (n::ks.flat)):=by
 have hc:=Aw n ks.flat
 unfold aZ lO
 intro x s hs
 by_cases h1:n.op=1
 · simp only[h1,if_true,mN,List.mem_append,List.mem_singleton] at hs
   rcases hs with hs|rfl
   · exact .inl hs
   · right;simp[bB,h1]
 · simp only[if_neg h1] at hs
   by_cases h2:n.op=2
   · simp only[if_pos h2] at hs;exact .inl hs
   · simp only[if_neg h2] at hs
     by_cases h3:n.op=3
     · simp only[if_pos h3] at hs;exact .inl hs
     · simp only[if_neg h3] at hs
       by_cases h4:n.op=4
       · simp only[if_pos h4] at hs;exact ((hk _ _).mono hc) x s hs
       · simp only[if_neg h4] at hs
         by_cases h5:n.op=5
         · simp only[if_pos h5] at hs;exact ((hk _ _).mono hc) x s hs
         · simp only[if_neg h5] at hs
           by_cases h6:n.op=6
           · simp only[if_pos h6] at hs;exact (((hk _ _).rep _ _).mono hc) x s hs
           · simp only[if_neg h6] at hs
             by_cases h7:n.op=7
             · simp only[if_pos h7] at hs;exact ((hk _ _).mono hc) x s hs
             · simp only[if_neg h7] at hs;exact .inl hs
theorem pL:∀ (f:F)(b:Bool)(c:Pt),jV (dx f b c) (bB f.flat)
 | .nil,_,_=>fun x s hs=>.inl hs
 | .nd n ks r,b,c=>by
   have hp:jV (aZ n ks) (bB (n::ks.flat)):=Ax fun b c=>pL ks b c
   have e:(F.nd n ks r).flat=(n::ks.flat)++r.flat:=by simp[F.flat]
   intro x s hs
   rw[e]
   cases b with
   | false=>
     rw[qW] at hs
     rcases pL r false _ _ s hs with h1|h1
     · exact (hp x s h1).imp id fun h=>lR.2 (.inl h)
     · exact .inr (lR.2 (.inr h1))
   | true=>
     rw[qX] at hs
     rcases pL r true _ _ s hs with h1|h1
     · exact (hp x s h1).imp id fun h=>lR.2 (.inl h)
     · exact .inr (lR.2 (.inr h1))
theorem xj {fol:List Sp}{s:Sp}(p:Nat):∀ n,n≤fol.length→((eF fol s n).getLsbD p=true↔∃ r,r<n∧s.getLsbD r=true∧(fol[r]?.getD 0).getLsbD p=true)
 | 0,_=>by simp[eF]
 | n+1,hn=>by
   have ih:=xj (fol:=fol) (s:=s) p n (by omega)
   unfold eF
   by_cases h:s.getLsbD n=true
   · rw[if_pos h,Jk,ih]
     constructor
     · rintro (⟨r,a,b,c⟩|h2)
       · exact⟨r,by omega,b,c⟩
       · exact⟨n,by omega,h,h2⟩
     · rintro⟨r,a,b,c⟩
       rcases Nat.lt_or_ge r n with h3|h3
       · exact .inl ⟨r,h3,b,c⟩
       · obtain rfl:r=n:=by omega
         exact .inr c
   · rw[if_neg h,ih]
     constructor
     · rintro⟨r,a,b,c⟩;exact⟨r,by omega,b,c⟩
     · rintro⟨r,a,b,c⟩
       rcases Nat.lt_or_ge r n with h3|h3
       · exact⟨r,h3,b,c⟩
       · obtain rfl:r=n:=by omega
         exact absurd b h
theorem Ay {sets:List Kl.Cl}{a:Kl.Cl}{p:Nat}(hp:p<24):∀ n,n≤24→((nK sets a n).getLsbD p=true↔p<n∧(sets[p]?.getD 0) &&& a≠0)
 | 0,_=>by simp[nK]
 | n+1,hn=>by
   have ih:=Ay (sets:=sets) (a:=a) hp n (by omega)
   unfold nK
   by_cases h:(sets[n]?.getD 0) &&& a=0
   · rw[if_pos h,ih]
     constructor
     · rintro⟨h1,h2⟩;exact⟨by omega,h2⟩
     · rintro⟨h1,h2⟩
       rcases Nat.lt_or_ge p n with h3|h3
       · exact⟨h3,h2⟩
       · obtain rfl:p=n:=by omega
         exact absurd h h2
   · rw[if_neg h,Jk,ih,s5 hp]
     simp only[decide_eq_true_eq]
     constructor
     · rintro (⟨h1,h2⟩|rfl)
       · exact⟨by omega,h2⟩
       · exact⟨by omega,h⟩
     · rintro⟨h1,h2⟩
       rcases Nat.lt_or_ge p n with h3|h3
       · exact .inl ⟨h3,h2⟩
       · exact .inr (by omega)
theorem te (a b:Sp)(p:Nat):(a &&& b).getLsbD p=true↔a.getLsbD p=true∧b.getLsbD p=true:=by rw[BitVec.getLsbD_and,Bool.and_eq_true]
theorem RT {s:Sp}:s≠0↔∃ p,s.getLsbD p=true:=by
 constructor
 · intro h
   refine Classical.byContradiction fun hc=>h ?_
   apply BitVec.eq_of_getLsbD_eq
   intro i _
   cases e:s.getLsbD i with
   | false=>simp
   | true=>exact absurd ⟨i,e⟩ hc
 · rintro⟨p,hp⟩ rfl
   simp at hp
def ux (rds:List Sp)(fr:Sp)(row:List Nat)(met:List Sp):Prop:=∀ (k:Nat)(r:Sp),rds[k]?=some r→∃ j,row[k]?=some (j+1)∧met[j]?=some (fr &&& r)
theorem ux.mono {rds:List Sp}{fr:Sp}{row:List Nat}{met:List Sp}(h:ux rds fr row met)(t:List Sp):ux rds fr row (met++t):=fun k r hr=>by
 obtain⟨j,h1,h2⟩:=h k r hr
 exact⟨j,h1,by rw[List.getElem?_append_left (List.getElem?_eq_some_iff.1 h2).1];exact h2⟩
theorem yL (fr:Sp):∀ (rds met:List Sp),(∃ t,(dY rds fr met).2=met++t)∧ux rds fr (dY rds fr met).1 (dY rds fr met).2
 | [],met=>⟨⟨[],by simp[dY]⟩,fun k r h=>by simp at h⟩
 | x::rds,met=>by
   obtain⟨⟨t,ht⟩,h2⟩:=yL fr rds (dD met (fr &&& x))
   obtain⟨u,hu⟩:=yM met (fr &&& x)
   refine⟨⟨u++t,by show (dY rds fr (dD met (fr &&& x))).2=_;rw[ht,hu,List.append_assoc]⟩,fun k r hr=>?_⟩
   cases k with
   | zero=>
     obtain rfl:x=r:=by simpa using hr
     refine⟨met.idxOf (fr &&& x),rfl,?_⟩
     show (dY rds fr (dD met (fr &&& x))).2[_]?=_
     have h3:=EL met (fr &&& x)
     rw[ht,List.getElem?_append_left (List.getElem?_eq_some_iff.1 h3).1]
     exact h3
   | succ k=>exact h2 k r (by simpa using hr)
structure H9 (fol rds:List Sp)(root:Pt)(q:Nat)(w:Wd):Prop where
 e0:w.ends[0]?=some root.n11
 r0:∃ row,w.next[0]?=some row∧ux rds root.f1 row w.met
 ln:w.next.length=q+1
 le:w.ends.length=q+1
 rs:∀ (i:Nat)(s:Sp),i<q→w.met[i]?=some s→w.ends[i+1]?=some (decide (s &&& root.l1≠0))∧∃ row,w.next[i+1]?=some row∧ux rds (eF fol s fol.length) row w.met
theorem H9.init (fol rds:List Sp)(root:Pt):H9 fol rds root 0 (ur rds root):=by
 obtain⟨_,h2⟩:=yL root.f1 rds []
 exact⟨rfl,⟨_,rfl,h2⟩,rfl,rfl,fun i s h=>by omega⟩
theorem H9.step {fol rds:List Sp}{root:Pt}{q:Nat}{w:Wd}(h:H9 fol rds root q w)(hq:q<w.met.length):H9 fol rds root (q+1) (lP fol rds root.l1 q w):=by
 obtain⟨s,hs⟩:∃ s,w.met[q]?=some s:=⟨_,List.getElem?_eq_getElem hq⟩
 have e:lP fol rds root.l1 q w=⟨(dY rds (eF fol s fol.length) w.met).2,w.next++[(dY rds (eF fol s fol.length) w.met).1],w.ends++[decide (s &&& root.l1≠0)]⟩:=by
   simp only[lP,Wd.row,hs,Option.getD_some]
 obtain⟨⟨t,ht⟩,h2⟩:=yL (eF fol s fol.length) rds w.met
 rw[e]
 refine⟨?_,?_,by simp[h.ln],by simp[h.le],fun i s' hi mT=>?_⟩
 · show (w.ends++_)[0]?=_
   rw[List.getElem?_append_left (by have:=h.le;omega)];exact h.e0
 · obtain⟨row,h3,h4⟩:=h.r0
   refine⟨row,?_,?_⟩
   · show (w.next++_)[0]?=_
     rw[List.getElem?_append_left (by have:=h.ln;omega)];exact h3
   · show ux _ _ _ (dY rds (eF fol s fol.length) w.met).2
     rw[ht];exact h4.mono t
 · dsimp only at mT ⊢
   rw[ht,List.getElem?_append_left (by omega)] at mT
   rcases Nat.lt_or_ge i q with hiq|hiq
   · obtain⟨h5,row,h6,h7⟩:=h.rs i s' hiq mT
     refine⟨by rw[List.getElem?_append_left (by have:=h.le;omega)];exact h5,row,by rw[List.getElem?_append_left (by have:=h.ln;omega)];exact h6,?_⟩
     rw[ht];exact h7.mono t
   · obtain rfl:i=q:=by omega
     rw[hs] at mT
     obtain rfl:=Option.some.inj mT
     refine⟨by rw[List.getElem?_append_right (by rw[h.le];omega),h.le];simp,_,by rw[List.getElem?_append_right (by rw[h.ln];omega),h.ln];simp,h2⟩
theorem H9.run {fol rds:List Sp}{root:Pt}:∀ (f q:Nat)(w:Wd),q+f=full→w.met.Nodup→q≤w.met.length→H9 fol rds root q w→H9 fol rds root (gF fol rds root.l1 f q w).met.length (gF fol rds root.l1 f q w)
 | 0,q,w,hf,hn,hq,_=>by
   have:=kO hn
   unfold full at hf
   omega
 | f+1,q,w,hf,hn,hq,h=>by
   unfold gF
   by_cases hl:q<w.met.length
   · rw[if_pos hl]
     have hm:=jm (eF fol (w.met[q]?.getD 0) fol.length) rds w.met
     exact H9.run f (q+1) _ (by omega) (jw _ _ _ hn) (by show q+1≤(dY rds _ w.met).2.length;omega) (h.step hl)
   · rw[if_neg hl]
     rwa [show w.met.length=q by omega]
theorem Jl (x:fk)(root:Pt)(atoms:List Kl.Cl):H9 x.fol (fI x.sets atoms) root (dJ x root atoms).met.length (dJ x root atoms):=
 H9.run _ _ _ (by omega) (jw _ _ _ List.nodup_nil) (Nat.zero_le _) (H9.init _ _ _)
theorem Path.snoc {E T:Nat→Nat→Prop}{p i q j:Nat}:Path E T p i q (j+1)↔(i=j∧p=q∧T p i)∨∃ r,Path E T p i r j∧E r q∧T q j:=by
 constructor
 · intro h
   have key:∀ {p i q k:Nat},Path E T p i q k→∀ j,k=j+1→(i=j∧p=q∧T p i)∨∃ r,Path E T p i r j∧E r q∧T q j:=by
     intro p i q k h
     induction h with
     | one ht=>exact fun j hj=>.inl ⟨by omega,rfl,ht⟩
     | @step p i r q k ht he hr ih=>
       intro j hj
       rcases ih j hj with ⟨h1,rfl,h3⟩|⟨s,h1,h2,h3⟩
       · subst h1
         exact .inr ⟨p,.one ht,he,h3⟩
       · exact .inr ⟨s,.step ht he h1,h2,h3⟩
   exact key h j rfl
 · rintro (⟨rfl,rfl,h⟩|⟨r,h1,h2,h3⟩)
   · exact .one h
   · exact h1.trans h2 (.one h3)
theorem xu (next:List (List Nat))(k:Nat):∀ (t:List Nat)(q:Nat),CU next q (t++[k])=nx next (CU next q t) k
 | [],q=>rfl
 | x::t,q=>xu next k t (nx next q x)
theorem JM {next:List (List Nat)}{q k v:Nat}{row:List Nat}(h:next[q]?=some row)(hv:row[k]?=some v):nx next q k=v:=by simp[nx,h,hv]
theorem JN {re:List Nd}{n:Nd}{ks:F}(h:Mc.iR re n ks)(hs:bz re=true)(hr:ez re=false):uk (.nd n ks .nil):=by
 refine s6 _ fun y hy h8=>?_
 have hm:y∈re:=by rw[h.flat];simpa [F.flat] using hy
 rw[pZ hs hm h8] at hr
 cases hr
theorem JO {re:List Nd}{n:Nd}{ks:F}(hS:Mc.iR re n ks)(hn:uk (.nd n ks .nil))(hw:(F.nd n ks .nil).weight≤20)(w:List UInt8) :
   jB (jx re n ks).next (jx re n ks).ends 0 (uR (atoms (bB re)) w)=true↔fw w n ks 0 w.length:=by
 have amp:eM n ks≤20:=by
   have h1:=zd (F.nd n ks .nil) hS.wf
   have h2:gB (F.nd n ks .nil)=eM n ks+gB .nil:=rfl
   omega
 obtain⟨_,hlen,hA⟩:=IW (w:=w) hS.wf hn ⟨[],[]⟩ rfl (by simp;omega)
 have GP:∀ s∈(aZ n ks ⟨[],[]⟩).2.sets,s∈bB re:=fun s hs=>by
   rcases Ax (fun b c=>pL ks b c) ⟨[],[]⟩ s hs with h|h
   · cases h
   · rw[hS.flat];exact h
 have hC:=Jl (aZ n ks ⟨[],[]⟩).2 (aZ n ks ⟨[],[]⟩).1 (atoms (bB re))
 have eW:jx re n ks=dJ (aZ n ks ⟨[],[]⟩).2 (aZ n ks ⟨[],[]⟩).1 (atoms (bB re)):=rfl
 rw[← eW] at hC
 obtain⟨X,hX⟩:∃ X,X=(aZ n ks ⟨[],[]⟩).2:=⟨_,rfl⟩
 obtain⟨root,uS⟩:∃ r,r=(aZ n ks ⟨[],[]⟩).1:=⟨_,rfl⟩
 obtain⟨at_,B6⟩:∃ a,a=atoms (bB re):=⟨_,rfl⟩
 obtain⟨W,hW⟩:∃ W,W=jx re n ks:=⟨_,rfl⟩
 rw[← hX] at hlen hA GP hC
 rw[← uS] at hA hC
 rw[← B6] at hC ⊢
 rw[← hW] at hC ⊢
 have Oe:MZ at_:=by rw[B6];exact qY _
 have amq:X.sets.length≤20:=by have:X.sets.length=0+eM n ks:=hlen;omega
 have Gd:=hA.ln
 have Ge:∀ (m:Nat)(b:UInt8),w[m]?=some b→∃ a,at_[uT at_ b.toNat]?=some a∧∀ p,p<24→((nK X.sets a X.sets.length).getLsbD p=true↔p<X.sets.length∧tk w X p m):=by
   intro m b hb
   obtain⟨hk,hh⟩:=Oe.fst b.toNat_lt
   refine⟨_,List.getElem?_eq_getElem hk,fun p hp=>?_⟩
   rw[Ay hp _ (by omega)]
   refine and_congr_right fun qH=>?_
   have hs:X.sets[p]?=some X.sets[p]:=List.getElem?_eq_getElem qH
   have hm:=GP _ (List.getElem_mem qH)
   have JP:=SX (l:=bB re) hm (by rw[← B6];exact List.getElem_mem hk) hh
   unfold tk
   rw[hs,Option.getD_some,hb]
   have e1:(X.sets[p] &&& at_[uT at_ b.toNat]≠0)↔X.sets[p].getLsbD b.toNat=true:=by
     unfold Kl.mt at JP
     constructor
     · intro h
       rw[decide_eq_false (show ¬ (X.sets[p] &&& at_[uT at_ b.toNat]=0#256) from fun h2=>h h2)] at JP
       cases e:X.sets[p].getLsbD b.toNat with
       | true=>rfl
       | false=>rw[e] at JP;cases JP
     · intro h h2
       rw[h,decide_eq_true (show X.sets[p] &&& at_[uT at_ b.toNat]=0#256 from h2)] at JP
       cases JP
   rw[e1]
   constructor
   · intro h;exact⟨b,rfl,h⟩
   · rintro⟨b',e,h⟩
     rw[← Option.some.inj e] at h;exact h
 have h24:∀ {s:Sp}{p:Nat},s.getLsbD p=true→p<24:=fun {s p} h=>by
   rcases Nat.lt_or_ge p 24 with h1|h1
   · exact h1
   · rw[BitVec.getLsbD_of_ge _ _ h1] at h;cases h
 have main:∀ m,m<w.length→∃ (j:Nat)(s:Sp),CU W.next 0 ((uR at_ w).take (m+1))=j+1∧W.met[j]?=some s∧∀ p,s.getLsbD p=true↔∃ p0,iY root true p0∧Path (ed X) (tk w X) p0 0 p (m+1):=by
   intro m
   induction m with
   | zero=>
     intro hm
     obtain⟨b,hb⟩:∃ b,w[0]?=some b:=⟨_,List.getElem?_eq_getElem hm⟩
     obtain⟨a,ha,hr⟩:=Ge 0 b hb
     obtain⟨row,h1,h2⟩:=hC.r0
     obtain⟨j,h3,h4⟩:=h2 _ _ (rk ha)
     have ht:(uR at_ w).take 1 = [uT at_ b.toNat]:=by
       rw[aY (k:=0) (by unfold uR;rw[List.getElem?_map,hb];rfl)];rfl
     refine⟨j,_,?_,h4,fun p=>?_⟩
     · rw[ht];exact JM h1 h3
     · rw[te]
       constructor
       · rintro⟨g1,g2⟩
         exact⟨p,g1,.one ((hr p (h24 g1)).1 g2).2⟩
       · rintro⟨p0,g1,g2⟩
         rcases Path.snoc.1 g2 with ⟨_,rfl,g3⟩|⟨r,g3,_,_⟩
         · have:=hA.fr.rF true p0 g1
           exact⟨g1,(hr p0 (h24 g1)).2 ⟨this.2,g3⟩⟩
         · have:=g3.lt;omega
   | succ m ih=>
     intro hm
     obtain⟨j,s,e1,e2,e3⟩:=ih (by omega)
     obtain⟨b,hb⟩:∃ b,w[m+1]?=some b:=⟨_,List.getElem?_eq_getElem hm⟩
     obtain⟨a,ha,hr⟩:=Ge (m+1) b hb
     have Ib:=(List.getElem?_eq_some_iff.1 e2).1
     obtain⟨_,row,h1,h2⟩:=hC.rs j s Ib e2
     obtain⟨j',h3,h4⟩:=h2 _ _ (rk ha)
     refine⟨j',_,?_,h4,fun p=>?_⟩
     · rw[aY (k:=m+1) (a:=uT at_ b.toNat) (by unfold uR;rw[List.getElem?_map,hb];rfl),xu,e1]
       exact JM h1 h3
     · rw[te,xj p _ (Nat.le_refl _)]
       constructor
       · rintro⟨⟨r,_,g1,g2⟩,g3⟩
         obtain⟨p0,g4,g5⟩:=(e3 r).1 g1
         exact⟨p0,g4,Path.snoc.2 (.inr ⟨r,g5,g2,((hr p (h24 g2)).1 g3).2⟩)⟩
       · rintro⟨p0,g1,g2⟩
         rcases Path.snoc.1 g2 with ⟨g3,_⟩|⟨r,g3,g4,g5⟩
         · omega
         · have VS:=hA.fr.rF true p0 g1
           have EZ:=g3.stay hA.fr.rE VS
           have Xp:=hA.fr.rE r p EZ g4
           have p5:r<X.fol.length:=by have:=EZ.2;omega
           exact⟨⟨r,p5,(e3 r).2 ⟨p0,g1,g3⟩,g4⟩,(hr p (h24 g4)).2 ⟨Xp.2,g5⟩⟩
 rcases Nat.eq_zero_or_pos w.length with h0|h0
 · have hw0:=List.eq_nil_of_length_eq_zero h0
   subst hw0
   have wY:=hA.fr.nl 0 (Nat.zero_le _)
   show W.ends[0]?.getD false=true↔fw [] n ks 0 0
   rw[hC.e0,wY]
   simp[zX]
 · obtain⟨N,hN⟩:∃ N,w.length=N+1:=⟨w.length-1,by omega⟩
   obtain⟨j,s,e1,e2,e3⟩:=main N (by omega)
   have ht:(uR at_ w).take (N+1)=uR at_ w:=List.take_of_length_le (by simp[uR];omega)
   rw[ht] at e1
   have Ib:=(List.getElem?_eq_some_iff.1 e2).1
   obtain⟨h5,_⟩:=hC.rs j s Ib e2
   unfold jB
   rw[e1,h5,Option.getD_some,decide_eq_true_eq,RT,hA.fr.ph 0 w.length h0 (Nat.le_refl _),decide_eq_true rfl,decide_eq_true rfl,hN]
   constructor
   · rintro⟨p,hp⟩
     obtain⟨g1,g2⟩:=(te _ _ _).1 hp
     obtain⟨p0,g3,g4⟩:=(e3 p).1 g1
     exact⟨p0,p,g3,g4,g2⟩
   · rintro⟨p0,p,g3,g4,g2⟩
     exact⟨p,(te _ _ _).2 ⟨(e3 p).2 ⟨p0,g3,g4⟩,g2⟩⟩
inductive zq {α β:Type}(R:α→β→Prop):List α→List β→Prop
 | nil:zq R [] []
 | cons {a:α}{b:β}{l:List α}{m:List β}(h:R a b)(t:zq R l m):zq R (a::l) (b::m)
theorem zq.len {α β:Type}{R:α→β→Prop}{l:List α}{m:List β}(h:zq R l m):l.length=m.length:=by
 induction h with
 | nil=>rfl
 | cons _ _ ih=>simp[ih]
theorem zq.snoc {α β:Type}{R:α→β→Prop}{l:List α}{m:List β}(h:zq R l m){a:α}{b:β}(hr:R a b):zq R (l++[a]) (m++[b]):=by
 induction h with
 | nil=>exact .cons hr .nil
 | cons h1 _ ih=>exact .cons h1 ih
theorem zq.get {α β:Type}{R:α→β→Prop}{l:List α}{m:List β}(h:zq R l m):∀ {i:Nat}{a:α},l[i]?=some a→∃ b,m[i]?=some b∧R a b:=by
 induction h with
 | nil=>intro i a hi;cases hi
 | cons h1 _ ih=>
   intro i a hi
   cases i with
   | zero=>exact⟨_,rfl,Option.some.inj hi ▸ h1⟩
   | succ i=>exact ih hi
def ix (w:Wd)(part:List Nat)(lv:List Bool):Nat→Nat→Lm→Lm
 | 0,_,m=>m
 | f+1,i,m=>if i<m.met.length then ix w part lv f (i+1) (gH w part lv i m) else m
structure KG (w1:Wd)(P1:List Nat)(v1:List Bool)(w2:Wd)(P2:List Nat)(v2:List Bool)(R:Nat→Nat→Prop):Prop where
 ends:∀ p q,R p q→w1.ends[p]?.getD false=w2.ends[q]?.getD false
 rows:∀ p q,R p q→zq R (w1.next[p]?.getD []) (w2.next[q]?.getD [])
 liv:∀ p q,R p q→v1[p]?.getD false=v2[q]?.getD false
 Fu:∀ p q p' q',R p q→R p' q'→(pt P1 p=pt P1 p'↔pt P2 q=pt P2 q')
section
variable {w1 w2:Wd}{P1 P2:List Nat}{v1 v2:List Bool}{R:Nat→Nat→Prop}
theorem KG.idx (h:KG w1 P1 v1 w2 P2 v2 R){l m:List Nat}(hl:zq R l m){p q:Nat}(hr:R p q):idx (l.map (pt P1)) (pt P1 p)=idx (m.map (pt P2)) (pt P2 q)∧(pt P1 p∈l.map (pt P1)↔pt P2 q∈m.map (pt P2)):=by
 induction hl with
 | nil=>exact⟨rfl,by simp⟩
 | @cons a b l m h1 _ ih=>
   have e:=h.Fu a b p q h1 hr
   constructor
   · simp only[List.map_cons,cm.idx]
     by_cases c:pt P1 a=pt P1 p
     · rw[if_pos c,if_pos (e.1 c)]
     · rw[if_neg c,if_neg (fun c2=>c (e.2 c2)),ih.1]
   · simp only[List.map_cons,List.mem_cons]
     rw[ih.2,eq_comm (a:=pt P1 p),e,eq_comm (a:=pt P2 b)]
theorem KG.jQ (h:KG w1 P1 v1 w2 P2 v2 R){l m:List Nat}(hl:zq R l m){p q:Nat}(hr:R p q):(jQ P1 v1 l p).1=(jQ P2 v2 m q).1∧zq R (jQ P1 v1 l p).2 (jQ P2 v2 m q).2:=by
 have hv:=h.liv p q hr
 have hi:=h.idx hl hr
 have e1:∀ (P:List Nat)(l:List Nat),(l.map fun m=>P[m]?.getD 0)=l.map (pt P):=fun _ _=>rfl
 have e2:∀ (P:List Nat)(x:Nat),P[x]?.getD 0=pt P x:=fun _ _=>rfl
 unfold cm.jQ
 rw[hv]
 by_cases c:v2[q]?.getD false=false
 · rw[if_pos c,if_pos c];exact⟨rfl,hl⟩
 · rw[if_neg c,if_neg c]
   simp only[e1,e2]
   refine⟨by rw[hi.1],?_⟩
   by_cases c2:pt P1 p∈l.map (pt P1)
   · rw[if_pos c2,if_pos (hi.2.1 c2)];exact hl
   · rw[if_neg c2,if_neg (fun c3=>c2 (hi.2.2 c3))];exact hl.snoc hr
theorem KG.row (h:KG w1 P1 v1 w2 P2 v2 R){r s:List Nat}(F1:zq R r s):∀ {l m:List Nat},zq R l m→(cz P1 v1 r l).1=(cz P2 v2 s m).1∧zq R (cz P1 v1 r l).2 (cz P2 v2 s m).2:=by
 induction F1 with
 | nil=>intro l m hl;exact⟨rfl,hl⟩
 | @cons a b r s h1 _ ih=>
   intro l m hl
   have ht:=h.jQ hl h1
   have hi:=ih ht.2
   exact⟨by simp only[cz];rw[ht.1,hi.1],hi.2⟩
def LmR (R:Nat→Nat→Prop)(a b:Lm):Prop:=zq R a.met b.met∧a.next=b.next∧a.ends=b.ends
theorem KG.step (h:KG w1 P1 v1 w2 P2 v2 R){a b:Lm}(hm:LmR R a b){i:Nat}(hi:i<a.met.length):LmR R (gH w1 P1 v1 i a) (gH w2 P2 v2 i b):=by
 obtain⟨h1,h2,h3⟩:=hm
 obtain⟨q,hq⟩:∃ q,a.met[i]?=some q:=⟨_,List.getElem?_eq_getElem hi⟩
 obtain⟨q',SJ,hr⟩:=h1.get hq
 have kR:=h.row (h.rows q q' hr) h1
 have he:=h.ends q q' hr
 unfold gH
 simp only[hq,SJ,Option.getD_some]
 exact⟨kR.2,by rw[h2,kR.1],by rw[h3,he]⟩
theorem KG.run (h:KG w1 P1 v1 w2 P2 v2 R):∀ (f i:Nat){a b:Lm},LmR R a b→LmR R (ix w1 P1 v1 f i a) (ix w2 P2 v2 f i b)
 | 0,_,_,_,hm=>hm
 | f+1,i,a,b,hm=>by
   have hl:=hm.1.len
   unfold ix
   by_cases hi:i<a.met.length
   · rw[if_pos hi,if_pos (by omega)];exact h.run f (i+1) (h.step hm hi)
   · rw[if_neg hi,if_neg (by omega)];exact hm
end
theorem Ds (w:Wd)(P:List Nat)(lv:List Bool)(i:Nat)(m:Lm):m.met.length≤(gH w P lv i m).met.length:=(l5 P lv _ m.met).2
theorem vk (w:Wd)(P:List Nat)(lv:List Bool):∀ (f i:Nat)(m:Lm),m.met.length≤(ix w P lv f i m).met.length
 | 0,_,m=>Nat.le_refl _
 | f+1,i,m=>by
   unfold ix
   split
   · exact Nat.le_trans (Ds w P lv i m) (vk w P lv f (i+1) _)
   · exact Nat.le_refl _
theorem Fv {w:Wd}{P:List Nat}{lv:List Bool}:∀ (f g i:Nat)(m m':Lm),gJ w P lv f i m=some m'→f≤g→ix w P lv g i m=m'
 | 0,_,_,_,_,h,_=>by cases h
 | f+1,g,i,m,m',h,hg=>by
   obtain⟨g,rfl⟩:∃ g',g=g'+1:=⟨g-1,by omega⟩
   unfold gJ at h
   unfold ix
   by_cases hi:i<m.met.length
   · rw[if_pos hi] at h ⊢
     by_cases hm:256<m.met.length
     · rw[if_pos hm] at h;cases h
     · rw[if_neg hm] at h;exact Fv f g (i+1) _ m' h (by omega)
   · rw[if_neg hi] at h ⊢
     exact Option.some.inj h
theorem vl {w:Wd}{P:List Nat}{lv:List Bool}:∀ (f g i:Nat)(m:Lm),i+f=258→i≤257→gJ w P lv f i m=none→f≤g→256<(ix w P lv g i m).met.length
 | 0,g,i,m,he,hi,_,_=>by omega
 | f+1,g,i,m,he,hi7,h,hg=>by
   obtain⟨g,rfl⟩:∃ g',g=g'+1:=⟨g-1,by omega⟩
   unfold gJ at h
   by_cases hi:i<m.met.length
   · by_cases hm:256<m.met.length
     · exact Nat.lt_of_lt_of_le hm (vk _ _ _ _ _ _)
     · rw[if_pos hi,if_neg hm] at h
       unfold ix
       rw[if_pos hi]
       exact vl f g (i+1) _ (by omega) (by omega) h (by omega)
   · rw[if_neg hi] at h;cases h
structure C3 (next:List (List Nat))(ends:List Bool)(K:Nat)(part:List Nat):Prop where
 len:part.length=next.length
 iff:∀ i j,i<next.length→j<next.length→(pt part i=pt part j↔∀ t,(∀ k∈t,k<K)→jB next ends i t=jB next ends j t)
theorem E9 {next:List (List Nat)}{ends:List Bool}{K:Nat}(h:nW next ends K){part:List Nat}(hs:Sep next ends K part)(hb:Stb next K part):C3 next ends K part:=by
 have key:∀ (t:List Nat)(i j:Nat),i<next.length→j<next.length→(∀ k∈t,k<K)→pt part i=pt part j→jB next ends i t=jB next ends j t:=by
   intro t
   induction t with
   | nil=>intro i j hi hj _ he;show ends[i]?.getD false=ends[j]?.getD false;rw[hs.res i j hi hj he]
   | cons k t ih=>
     intro i j hi hj ht he
     exact ih _ _ (h.get hi (ht k (by simp))).choose_spec.2.2 (h.get hj (ht k (by simp))).choose_spec.2.2 (fun x hx=>ht x (by simp[hx])) (hb i j hi hj he k (ht k (by simp)))
 refine⟨hs.len,fun i j hi hj=>⟨fun he t ht=>key t i j hi hj ht he,fun ha=>?_⟩⟩
 refine Classical.byContradiction fun dM=>?_
 obtain⟨t,ht,h1⟩:=hs.sep i j hi hj dM
 exact h1 (ha t ht)
def aes (w1 w2:Wd)(K p q:Nat):Prop:=p<w1.next.length∧q<w2.next.length∧∀ t,(∀ k∈t,k<K)→jB w1.next w1.ends p t=jB w2.next w2.ends q t
theorem KH {α β:Type}{R:α→β→Prop}:∀ {l:List α}{m:List β},l.length=m.length→(∀ (k:Nat)(a:α)(b:β),l[k]?=some a→m[k]?=some b→R a b)→zq R l m
 | [],[],_,_=>.nil
 | [],_::_,h,_=>by cases h
 | _::_,[],h,_=>by cases h
 | a::l,b::m,h,hr=>.cons (hr 0 a b rfl rfl) (KH (by simpa using h) fun k x y h1 h2=>hr (k+1) x y h1 h2)
theorem TK {w1 w2:Wd}{K:Nat}{P1 P2:List Nat}{v1 v2:List Bool}(h1:nW w1.next w1.ends K)(h2:nW w2.next w2.ends K)(p1:C3 w1.next w1.ends K P1)(p2:C3 w2.next w2.ends K P2)(l1:l6 w1.next w1.ends v1)(l2:l6 w2.next w2.ends v2):KG w1 P1 v1 w2 P2 v2 (aes w1 w2 K) where
 ends:=fun p q ⟨_,_,h⟩=>h [] (by simp)
 rows:=fun p q ⟨hp,hq,h⟩=>by
   have e1:w1.next[p]?=some w1.next[p]:=List.getElem?_eq_getElem hp
   have e2:w2.next[q]?=some w2.next[q]:=List.getElem?_eq_getElem hq
   rw[e1,e2,Option.getD_some,Option.getD_some]
   have n1:=h1.rows _ (List.getElem_mem hp)
   have n2:=h2.rows _ (List.getElem_mem hq)
   refine KH (by omega) fun k a b ha hb=>?_
   have hk:k<K:=by have:=(List.getElem?_eq_some_iff.1 ha).1;omega
   refine⟨h1.yI _ (List.getElem_mem hp) _ (List.mem_of_getElem? ha),h2.yI _ (List.getElem_mem hq) _ (List.mem_of_getElem? hb),fun t ht=>?_⟩
   have:=h (k::t) (fun x hx=>by rcases List.mem_cons.1 hx with rfl|hx;(· exact hk);(· exact ht x hx))
   have x1:nx w1.next p k=a:=by unfold nx;rw[e1,Option.getD_some,ha];rfl
   have x2:nx w2.next q k=b:=by unfold nx;rw[e2,Option.getD_some,hb];rfl
   rw[← x1,← x2];exact this
 liv:=fun p q ⟨hp,hq,h⟩=>by
   have g1:v1[p]?.getD false=true↔Live w1.next w1.ends p:=by
     rw[← l1.2 p,List.getElem?_eq_getElem (by rw[l1.1];exact hp)];simp
   have g2:v2[q]?.getD false=true↔Live w2.next w2.ends q:=by
     rw[← l2.2 q,List.getElem?_eq_getElem (by rw[l2.1];exact hq)];simp
   rw[AF h1 hp] at g1
   rw[AF h2 hq] at g2
   have g3:v1[p]?.getD false=true↔v2[q]?.getD false=true:=by
     rw[g1,g2]
     exact⟨fun⟨t,ht,ha⟩=>⟨t,ht,by rw[← h t ht];exact ha⟩,fun⟨t,ht,ha⟩=>⟨t,ht,by rw[h t ht];exact ha⟩⟩
   cases c1:v1[p]?.getD false <;> cases c2:v2[q]?.getD false <;> simp_all
 Fu:=fun p q p' q' ⟨hp,hq,h⟩ ⟨KI,SJ,h'⟩=>by
   rw[p1.iff p p' hp KI,p2.iff q q' hq SJ]
   exact⟨fun hh t ht=>by rw[← h t ht,← h' t ht];exact hh t ht,fun hh t ht=>by rw[h t ht,h' t ht];exact hh t ht⟩
end Go.HL.cm
namespace Go.HL.cm
open Go Go.HL Go.HL.Kl Go.HL.Kl.Mc
abbrev Pp:=Nat×Nat
abbrev cN:=List Pp
def je:Nat→F→List Nat
 | _,.nil=>[]
 | b,.nd _ ks r=>b::je (b+1+ks.size) r
def kz (l:List Nat):cN:=l.map fun k=>(k,0)
def qv (x:Nd)(r:Nat):Nat:=if x.mx<0 then min (r+1) x.mn.toNat else r+1
inductive rZ (re:List Nd)(S E:Prop):cN→cN→Prop
 | bol {i e r:Nat}{x:Nd}{ks:F}{t:cN}(h:Part re (.nd x ks .nil) i e)(ho:x.op=2)(hs:S):rZ re S E ((i,r)::t) t
 | Tg {i e r:Nat}{x:Nd}{ks:F}{t:cN}(h:Part re (.nd x ks .nil) i e)(ho:x.op=3)(hs:E):rZ re S E ((i,r)::t) t
 | cat {i e r:Nat}{x:Nd}{ks:F}{t:cN}(h:Part re (.nd x ks .nil) i e)(ho:x.op=4):rZ re S E ((i,r)::t) (kz (je (i+1) ks)++t)
 | alt {i e r k:Nat}{x:Nd}{ks:F}{t:cN}(h:Part re (.nd x ks .nil) i e)(ho:x.op=5)(hk:k∈je (i+1) ks):rZ re S E ((i,r)::t) ((k,0)::t)
 | V7 {i e r:Nat}{x:Nd}{ks:F}{t:cN}(h:Part re (.nd x ks .nil) i e)(ho:x.op=7):rZ re S E ((i,r)::t) ((i+1,0)::t)
 | out {i e r:Nat}{x:Nd}{ks:F}{t:cN}(h:Part re (.nd x ks .nil) i e)(ho:x.op=6)(hr:x.mn≤(r:Int)):rZ re S E ((i,r)::t) t
 | more {i e r:Nat}{x:Nd}{ks:F}{t:cN}(h:Part re (.nd x ks .nil) i e)(ho:x.op=6)(hr:x.mx<0∨(r:Int)<x.mx):rZ re S E ((i,r)::t) ((i+1,0)::(i,qv x r)::t)
inductive AV (re:List Nd)(S E:Prop):cN→cN→Prop
 | refl {s:cN}:AV re S E s s
 | step {s t u:cN}(h:rZ re S E s t)(hr:AV re S E t u):AV re S E s u
def RS (x:Nd)(D:Nat→Nat→Prop)(r p q:Nat):Prop:=∃ k:Nat,x.mn≤((r+k:Nat):Int)∧(k=0∨x.mx = -1∨((r+k:Nat):Int)≤x.mx)∧pow D k p q
theorem OT {x:Nd}{D:Nat→Nat→Prop}{p q:Nat}(h:x.mx = -1∨0≤x.mx):RS x D 0 p q↔RR x D 0 p q:=by
 constructor
 · rintro⟨k,h1,h2,h3⟩;exact⟨k,h1,by omega,h3⟩
 · rintro⟨k,h1,h2,h3⟩;exact⟨k,h1,by omega,h3⟩
theorem Zr {x:Nd}{D:Nat→Nat→Prop}{r p m q:Nat}(hx:x.mx<0∨(r:Int)<x.mx)(h1:x.mx = -1∨0≤x.mx)(hd:D p m)(h:RS x D (qv x r) m q):RS x D r p q:=by
 obtain⟨k,g1,g2,g3⟩:=h
 refine⟨k+1,?_,?_,m,hd,g3⟩
 · unfold qv at g1;split at g1 <;> omega
 · unfold qv at g2;split at g2 <;> omega
theorem Zs {x:Nd}{r k:Nat}(h1:x.mn≤((r+(k+1):Nat):Int))(h2:x.mx = -1∨((r+(k+1):Nat):Int)≤x.mx):x.mn≤((qv x r+k:Nat):Int)∧(k=0∨x.mx = -1∨((qv x r+k:Nat):Int)≤x.mx):=by
 unfold qv
 split <;> omega
def Dp (w:List UInt8)(re:List Nd)(p:Pp)(a b:Nat):Prop:=∃ (x:Nd)(ks:F)(e:Nat),Part re (.nd x ks .nil) p.1 e∧if x.op=6 then RS x (kn w ks false) p.2 a b else fw w x ks a b
def Tm (w:List UInt8)(re:List Nd):cN→Nat→Nat→Prop
 | [],a,b=>a=b
 | p::t,a,b=>∃ m,Dp w re p a m∧Tm w re t m b
theorem Tm.app {w:List UInt8}{re:List Nd}:∀ {s t:cN}{a b:Nat},Tm w re (s++t) a b↔∃ m,Tm w re s a m∧Tm w re t m b
 | [],t,a,b=>⟨fun h=>⟨a,rfl,h⟩,fun⟨m,h1,h2⟩=>by have h1:a=m:=h1;rw[h1];exact h2⟩
 | p::s,t,a,b=>by
   constructor
   · rintro⟨m,h1,h2⟩
     obtain⟨m',h3,h4⟩:=Tm.app.1 h2
     exact⟨m',⟨m,h1,h3⟩,h4⟩
   · rintro⟨m',⟨m,h1,h3⟩,h4⟩
     exact⟨m,h1,Tm.app.2 ⟨m',h3,h4⟩⟩
theorem iy {w:List UInt8}{re:List Nd}{x:Nd}{ks:F}{i e r a b:Nat}(h:Part re (.nd x ks .nil) i e):Dp w re (i,r) a b↔if x.op=6 then RS x (kn w ks false) r a b else fw w x ks a b:=by
 constructor
 · rintro⟨y,js,e',h',hd⟩
   obtain⟨rfl,rfl,_⟩:=h.ll h'
   exact hd
 · exact fun hd=>⟨x,ks,e,h,hd⟩
theorem FG {re:List Nd}{x:Nd}{ks:F}{i e:Nat}(h:Part re (.nd x ks .nil) i e)(h6:x.op=6):x.mx = -1∨0≤x.mx:=by
 have:=qu h.wf.1 h6;omega
theorem jl {w:List UInt8}{re:List Nd}{x:Nd}{ks:F}{i e a b:Nat}(h:Part re (.nd x ks .nil) i e):Dp w re (i,0) a b↔fw w x ks a b:=by
 rw[iy h]
 by_cases h6:x.op=6
 · rw[if_pos h6,Ur h6,OT (FG h h6)]
 · rw[if_neg h6]
theorem DH {w:List UInt8}{re:List Nd}:∀ {f:F}{b e a c:Nat},Part re f b e→(Tm w re (kz (je b f)) a c↔kn w f false a c)
 | .nil,b,e,a,c,_=>by rw[s9];exact Iff.rfl
 | .nd x ks r,b,e,a,c,h=>by
   rw[pF]
   constructor
   · rintro⟨m,h1,h2⟩
     exact⟨m,(jl h.one).1 h1,(DH h.head.2.2).1 h2⟩
   · rintro⟨m,h1,h2⟩
     exact⟨m,(jl h.one).2 h1,(DH h.head.2.2).2 h2⟩
theorem Lk {w:List UInt8}{re:List Nd}:∀ {f:F}{b e a c:Nat},Part re f b e→((∃ k∈je b f,Dp w re (k,0) a c)↔kn w f true a c)
 | .nil,b,e,a,c,_=>by rw[pE];simp[je]
 | .nd x ks r,b,e,a,c,h=>by
   rw[pD,← jl h.one,← Lk h.head.2.2]
   simp[je]
theorem Bn {w:List UInt8}{re:List Nd}{a c:Nat}{s t:cN}(h:rZ re (a=0) (a=w.length) s t)(ht:Tm w re t a c):Tm w re s a c:=by
 cases h with
 | bol h ho hs=>exact⟨a,(iy h).2 (by rw[if_neg (by omega),Ll ho];omega),ht⟩
 | Tg h ho hs=>exact⟨a,(iy h).2 (by rw[if_neg (by omega),Ln ho];omega),ht⟩
 | cat h ho=>
   obtain⟨m,h1,h2⟩:=Tm.app.1 ht
   exact⟨m,(iy h).2 (by rw[if_neg (by omega),zD (.inl ho)];exact (DH h.head.2.1).1 h1),h2⟩
 | alt h ho hk=>
   obtain⟨m,h1,h2⟩:=ht
   exact⟨m,(iy h).2 (by rw[if_neg (by omega),Lo ho];exact (Lk h.head.2.1).1 ⟨_,hk,h1⟩),h2⟩
 | V7 h ho=>
   obtain⟨m,h1,h2⟩:=ht
   obtain⟨y,js,rfl⟩:=eN h.wf (.inr ho)
   exact⟨m,(iy h).2 (by rw[if_neg (by omega),zD (.inr ho),FH];exact (jl h.head.2.1).1 h1),h2⟩
 | out h ho hr=>exact⟨a,(iy h).2 (by rw[if_pos ho];exact⟨0,by simpa using hr,.inl rfl,rfl⟩),ht⟩
 | more h ho hr=>
   obtain⟨m,h1,m2,h2,h3⟩:=ht
   obtain⟨y,js,rfl⟩:=eN h.wf (.inl ho)
   refine⟨m2,(iy h).2 ?_,h3⟩
   have h4:=(iy h).1 h2
   rw[if_pos ho] at h4 ⊢
   exact Zr hr (FG h ho) (FH.2 ((jl h.head.2.1).1 h1)) h4
inductive Ca (w:List UInt8)(re:List Nd):cN→Nat→Prop
 | nil:Ca w re [] w.length
 | set {i e r a:Nat}{x:Nd}{ks:F}{t:cN}{b:UInt8}(h:Part re (.nd x ks .nil) i e)(ho:x.op=1)(hb:w[a]?=some b)(hs:x.set.getLsbD b.toNat=true)(ht:Ca w re t (a+1)):Ca w re ((i,r)::t) a
 | op {s t:cN}{a:Nat}(h:rZ re (a=0) (a=w.length) s t)(ht:Ca w re t a):Ca w re s a
theorem Ca.tm {w:List UInt8}{re:List Nd}{s:cN}{a:Nat}(h:Ca w re s a):Tm w re s a w.length:=by
 induction h with
 | nil=>rfl
 | set h ho hb hs _ ih=>exact⟨_,(iy h).2 (by rw[if_neg (by omega),DI ho];exact⟨rfl,_,hb,hs⟩),ih⟩
 | op h _ ih=>exact Bn h ih
def Us (w:List UInt8)(re:List Nd)(f:F)(b:Nat):Prop:=(∀ a m t,kn w f false a m→Ca w re t m→Ca w re (kz (je b f)++t) a)∧∀ a m t,kn w f true a m→Ca w re t m→∃ k∈je b f,Ca w re ((k,0)::t) a
theorem FI {w:List UInt8}{re:List Nd}{x:Nd}{ks:F}{i e:Nat}(h:Part re (.nd x ks .nil) i e)(h6:x.op=6)(hk:Us w re ks (i+1)){m:Nat}{t:cN}(ht:Ca w re t m):∀ (k r a:Nat),x.mn≤((r+k:Nat):Int)→(k=0∨x.mx = -1∨((r+k:Nat):Int)≤x.mx)→pow (kn w ks false) k a m→Ca w re ((i,r)::t) a
 | 0,r,a,h1,_,h3=>by
   have h3:a=m:=h3
   rw[h3]
   exact .op (.out h h6 (by simpa using h1)) ht
 | k+1,r,a,h1,h2,⟨m1,h3,h4⟩=>by
   have h2':x.mx = -1∨((r+(k+1):Nat):Int)≤x.mx:=by omega
   obtain⟨g1,g2⟩:=Zs h1 h2'
   have ih:=FI h h6 hk ht k (qv x r) m1 g1 g2 h4
   have h5:=hk.1 a m1 _ h3 ih
   obtain⟨y,js,rfl⟩:=eN h.wf (.inl h6)
   exact .op (.more h h6 (by omega)) h5
theorem zE {w:List UInt8}{re:List Nd}{x:Nd}{ks:F}{i e:Nat}(h:Part re (.nd x ks .nil) i e)(h8:¬ x.op=8)(hk:Us w re ks (i+1)){r a m:Nat}{t:cN}(hd:Dp w re (i,r) a m)(ht:Ca w re t m):Ca w re ((i,r)::t) a:=by
 rw[iy h] at hd
 have ho:1≤x.op∧x.op≤8:=by
   have:=h.wf.1
   simp only[eH,Bool.and_eq_true] at this
   exact (dy.1 this.1).1
 by_cases h6:x.op=6
 · rw[if_pos h6] at hd
   obtain⟨k,h1,h2,h3⟩:=hd
   exact FI h h6 hk ht k r a h1 h2 h3
 rw[if_neg h6] at hd
 by_cases h1:x.op=1
 · obtain⟨rfl,b,hb,hs⟩:=(DI h1).1 hd
   exact .set h h1 hb hs ht
 by_cases h2:x.op=2
 · obtain⟨rfl,rfl⟩:=(Ll h2).1 hd
   exact .op (.bol h h2 rfl) ht
 by_cases h3:x.op=3
 · obtain⟨rfl,rfl⟩:=(Ln h3).1 hd
   exact .op (.Tg h h3 rfl) ht
 by_cases h4:x.op=4
 · exact .op (.cat h h4) (hk.1 a m t ((zD (.inl h4)).1 hd) ht)
 by_cases h5:x.op=5
 · obtain⟨k,g1,g2⟩:=hk.2 a m t ((Lo h5).1 hd) ht
   exact .op (.alt h h5 g1) g2
 · have h7:x.op=7:=by omega
   have g1:=hk.1 a m t ((zD (.inr h7)).1 hd) ht
   obtain⟨y,js,rfl⟩:=eN h.wf (.inr h7)
   exact .op (.V7 h h7) g1
theorem zF {w:List UInt8}{re:List Nd}:∀ (f:F){b e:Nat},Part re f b e→uk f→Us w re f b
 | .nil,b,e,_,_=>⟨fun a m t hd ht=>by rw[s9] at hd;rw[hd];exact ht,fun a m t hd=>by rw[pE] at hd;exact hd.elim⟩
 | .nd x ks r,b,e,h,hn=>by
   have hk:=zF (w:=w) ks h.head.2.1 hn.2.1
   have hr:=zF (w:=w) r h.head.2.2 hn.2.2
   refine⟨fun a m t hd ht=>?_,fun a m t hd ht=>?_⟩
   · obtain⟨m1,h1,h2⟩:=pF.1 hd
     exact zE h.one hn.1 hk ((jl h.one).2 h1) (hr.1 m1 m t h2 ht)
   · rcases pD.1 hd with h1|h1
     · exact⟨b,List.mem_cons_self,zE h.one hn.1 hk ((jl h.one).2 h1) ht⟩
     · obtain⟨k,g1,g2⟩:=hr.2 a m t h1 ht
       exact⟨k,List.mem_cons_of_mem _ g1,g2⟩
theorem Part.uk {re:List Nd}(hn:∀ y∈re,¬ y.op=8){f:F}{b e:Nat}(h:Part re f b e):uk f:=
 s6 f fun y hy=>hn y (List.mem_of_mem_drop (i:=b) (by rw[h.flat];exact List.mem_append_left _ hy))
theorem Lp {w:List UInt8}{re:List Nd}(hn:∀ y∈re,¬ y.op=8):∀ {s:cN}{a:Nat},Tm w re s a w.length→Ca w re s a
 | [],a,h=>by have h:a=w.length:=h;rw[h];exact .nil
 | (i,r)::t,a,⟨m,h1,h2⟩=>by
   obtain⟨x,ks,e,h,hd⟩:=h1
   have hr:=Part.uk hn h
   exact zE h hr.1 (zF ks h.head.2.1 hr.2.1) ((iy h).2 hd) (Lp hn h2)
theorem DJ {w:List UInt8}{re:List Nd}(hn:∀ y∈re,¬ y.op=8){s:cN}{a:Nat}:Tm w re s a w.length↔(a=w.length∧AV re (a=0) (a=w.length) s []) ∨
   (a<w.length∧∃ (i r e:Nat)(t:cN)(x:Nd)(ks:F)(b:UInt8),AV re (a=0) (a=w.length) s ((i,r)::t)∧Part re (.nd x ks .nil) i e∧x.op=1∧w[a]?=some b∧x.set.getLsbD b.toNat=true∧Tm w re t (a+1) w.length):=by
 constructor
 · intro h0
   have h:=Lp hn h0
   clear h0
   induction h with
   | nil=>exact .inl ⟨rfl,.refl⟩
   | set h ho hb hs ht _=>exact .inr ⟨(List.getElem?_eq_some_iff.1 hb).1,_,_,_,_,_,_,_,.refl,h,ho,hb,hs,ht.tm⟩
   | op h _ ih=>
     rcases ih with ⟨h1,h2⟩|⟨h1,i,r,e,t,x,ks,b,h2,h3⟩
     · exact .inl ⟨h1,.step h h2⟩
     · exact .inr ⟨h1,i,r,e,t,x,ks,b,.step h h2,h3⟩
 · have key:∀ {s u:cN},AV re (a=0) (a=w.length) s u→Tm w re u a w.length→Tm w re s a w.length:=by
     intro s u hr
     induction hr with
     | refl=>exact id
     | step h _ ih=>exact fun hu=>Bn h (ih hu)
   rintro (⟨h1,h2⟩|⟨h1,i,r,e,t,x,ks,b,h2,h3,h4,h5,h6,h7⟩)
   · exact key h2 h1
   · exact key h2 ⟨a+1,(iy h3).2 (by rw[if_neg (by omega),DI h4];exact⟨rfl,b,h5,h6⟩),h7⟩
end Go.HL.cm
