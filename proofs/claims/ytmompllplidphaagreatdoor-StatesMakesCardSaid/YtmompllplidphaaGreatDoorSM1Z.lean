/- Part of the proofs over this seat: see the text that holds the theorem. Conditions: each theorem bears its own. -/
import Derived.Test.YtmompllplidphaaGreatDoorHlB
import Derived.Test.YtmompllplidphaaGreatDoorMC9Z
import Derived.Test.YtmompllplidphaaGreatDoorHTZ
import Derived.StillTail
namespace Go.HL.cm
open Go Go.HL
abbrev Sp:=BitVec 24
def wp (c:Sp)(i:Nat):BitVec 8:=c.extractLsb' (8*i) 8
def Ep (w:BitVec 8):Value:=.int .u8 w.toNat
def E3 (c:Sp):List Value:=[Ep (wp c 0),Ep (wp c 1),Ep (wp c 2)]
instance:eB E3 3:=⟨fun _=>rfl,fun c v hv=>by simp[E3,Ep] at hv;rcases hv with rfl|rfl|rfl <;> rfl⟩
theorem l4 (c:Sp):∀ v∈E3 c,v.oneCell'=true:=eB.one c
theorem m4 (c:Sp){i:Nat}(h:i<3):(E3 c)[i]?=some (Ep (wp c i)):=by
 match i,h with
 | 0,_=>rfl
 | 1,_=>rfl
 | 2,_=>rfl
def HY (c:Sp)(i:Nat)(w:BitVec 8):Sp:=(c &&& ~~~ ((BitVec.allOnes 8).setWidth 24 <<< (8*i))) ||| (w.setWidth 24 <<< (8*i))
theorem BP (c:Sp){i:Nat}(w:BitVec 8)(_hi:i<3){j:Nat}(hj:j<24):(HY c i w).getLsbD j=if 8*i≤j∧j<8*i+8 then w.getLsbD (j-8*i) else c.getLsbD j:=by
 simp only[HY,BitVec.getLsbD_or,BitVec.getLsbD_and,BitVec.getLsbD_not,BitVec.getLsbD_shiftLeft,BitVec.getLsbD_setWidth,BitVec.getLsbD_allOnes,hj,decide_true,Bool.true_and]
 by_cases h1:j<8*i
 · simp[h1];omega
 · have h2:8*i≤j:=by omega
   by_cases h3:j<8*i+8
   · have h4:j-8*i<8:=by omega
     have h5:j-8*i<24:=by omega
     simp[h1,h2,h3,h4,h5]
   · have h4:¬ (j-8*i<8):=by omega
     have h5:w.getLsbD (j-8*i)=false:=BitVec.getLsbD_of_ge _ _ (by omega)
     simp[h1,h3,h4,h5]
theorem jN (c:Sp)(i:Nat){j:Nat}(hj:j<8):(wp c i).getLsbD j=c.getLsbD (8*i+j):=by
 simp[wp,hj]
theorem tM (c:Sp){i k:Nat}(w:BitVec 8)(hi:i<3)(hk:k<3):wp (HY c i w) k=if i=k then w else wp c k:=by
 apply BitVec.eq_of_getLsbD_eq
 intro j hj
 rw[jN _ _ hj,BP _ _ hi (by omega)]
 by_cases e:i=k
 · subst e
   have:8*i+j-8*i=j:=by omega
   rw[if_pos (by omega),if_pos rfl,this]
 · rw[if_neg (by omega),if_neg e,jN _ _ hj]
theorem Dc (c:Sp){i:Nat}(w:BitVec 8)(hi:i<3):(E3 c).set i (Ep w)=E3 (HY c i w):=by
 simp only[E3,tM c w hi (by decide:0<3),tM c w hi (by decide:1<3),tM c w hi (by decide:2<3)]
 match i,hi with
 | 0,_=>rfl
 | 1,_=>rfl
 | 2,_=>rfl
theorem zp {c d:Sp}(h:∀ i,i<3→wp c i=wp d i):c=d:=by
 apply BitVec.eq_of_getLsbD_eq
 intro j hj
 have h1:=congrArg (fun w=>BitVec.getLsbD w (j % 8)) (h (j / 8) (by omega))
 simp only[jN _ _ (show j % 8<8 by omega)] at h1
 have:8*(j / 8)+j % 8=j:=by omega
 rwa [this] at h1
theorem Vx {c d:Sp}(h:E3 c=E3 d):c=d:=by
 simp only[E3,Ep,List.cons.injEq,Value.int.injEq,true_and,and_true] at h
 obtain⟨h0,h1,h2⟩:=h
 refine zp fun i hi=>?_
 match i,hi with
 | 0,_=>exact BitVec.eq_of_toNat_eq (by omega)
 | 1,_=>exact BitVec.eq_of_toNat_eq (by omega)
 | 2,_=>exact BitVec.eq_of_toNat_eq (by omega)
def Is (c:Sp):List Int:=[((wp c 0).toNat:Int),((wp c 1).toNat:Int),((wp c 2).toNat:Int)]
theorem FU (c:Sp):E3 c=cI .u8 (Is c):=rfl
theorem Tk {c d:Sp}:Is c=Is d↔c=d:=⟨fun h=>Vx (by rw[FU,FU,h]),fun h=>by rw[h]⟩
def xd (x:Nat):Sp:=1#24 <<< x
theorem s5 {x j:Nat}(hj:j<24):(xd x).getLsbD j=decide (j=x):=by
 simp only[xd,BitVec.getLsbD_shiftLeft,hj,decide_true,Bool.true_and,BitVec.getLsbD_one]
 by_cases h:j=x
 · subst h;simp
 · by_cases h2:j<x
   · simp[h,h2]
   · have:¬ (j-x=0):=by omega
     simp[h,h2];omega
theorem Ml (c:Sp){x:Nat}(hx:x<24):HY c (x / 8) (wp c (x / 8) ||| (1#8 <<< (x % 8)))=c ||| xd x:=by
 apply BitVec.eq_of_getLsbD_eq
 intro j hj
 rw[BP _ _ (by omega) hj,BitVec.getLsbD_or (x:=c),s5 hj]
 by_cases h:8*(x / 8)≤j∧j<8*(x / 8)+8
 · rw[if_pos h,BitVec.getLsbD_or,jN _ _ (by omega)]
   have e:8*(x / 8)+(j-8*(x / 8))=j:=by omega
   rw[e]
   congr 1
   simp only[BitVec.getLsbD_shiftLeft,BitVec.getLsbD_one]
   by_cases h2:j=x
   · have h3:j-8*(x / 8)=x % 8:=by omega
     simp[h2];omega
   · have h3:¬ (j-8*(x / 8)=x % 8):=by omega
     by_cases h4:j-8*(x / 8)<x % 8
     · simp[h2,h4]
     · have h5:¬ (j-8*(x / 8)-x % 8=0):=by omega
       simp[h2,h4];omega
 · rw[if_neg h]
   have h2:¬ (j=x):=by omega
   simp[h2]
theorem wraps_u8 (n:Int):IntKind.u8.wrap n=n % 256:=by simp[IntKind.wrap,IntKind.signed,IntKind.bits]
theorem Ee (w:BitVec 8):IntKind.u8.wrap (w.toNat:Int)=w.toNat:=by
 have:=w.isLt
 rw[wraps_u8];omega
theorem MC (w:BitVec 8):BitVec.ofInt IntKind.u8.bits (w.toNat:Int)=w:=by
 apply BitVec.eq_of_toNat_eq
 have:=w.isLt
 simp[IntKind.bits]
theorem QZ (a b:BitVec 8):Value.int .u8 (IntKind.u8.wrap (BitVec.ofInt IntKind.u8.bits (a.toNat:Int) ||| BitVec.ofInt IntKind.u8.bits (b.toNat:Int)).toNat)=Ep (a ||| b):=by
 rw[MC,MC];exact congrArg _ (Ee _)
theorem Km (a b:BitVec 8):Value.int .u8 (IntKind.u8.wrap (BitVec.ofInt IntKind.u8.bits (a.toNat:Int) &&& BitVec.ofInt IntKind.u8.bits (b.toNat:Int)).toNat)=Ep (a &&& b):=by
 rw[MC,MC];exact congrArg _ (Ee _)
theorem Pu {k:Nat}(hk:k<8):Value.int .u8 (IntKind.u8.wrap (1*2 ^ (min ((k:Nat):Int).toNat IntKind.u8.bits)))=Ep (1#8 <<< k):=by
 have e:min ((k:Nat):Int).toNat IntKind.u8.bits=k:=by simp[IntKind.bits];omega
 rw[e]
 have h1:(2:Nat) ^ k<2 ^ 8:=Nat.pow_lt_pow_right (by decide) hk
 have h2:((2:Int) ^ k)=((2 ^ k:Nat):Int):=by simp
 simp only[Ep,Value.int.injEq,true_and,Int.one_mul]
 rw[h2,wraps_u8]
 have h3:(1#8 <<< k).toNat=2 ^ k:=by
   rw[BitVec.toNat_shiftLeft,BitVec.toNat_ofNat,Nat.shiftLeft_eq]
   simp
   exact h1
 rw[h3];omega
theorem PQ (w:BitVec 8){k:Nat}(hk:k<8):decide (IntKind.u8.wrap (BitVec.ofInt IntKind.u8.bits ((w.toNat:Int).fdiv (2 ^ (min ((k:Nat):Int).toNat IntKind.u8.bits))) &&& BitVec.ofInt IntKind.u8.bits 1).toNat=1)=w.getLsbD k:=by
 have e:min ((k:Nat):Int).toNat IntKind.u8.bits=k:=by simp[IntKind.bits];omega
 rw[e]
 have h2:((2:Int) ^ k)=((2 ^ k:Nat):Int):=by simp
 have h3:(w.toNat:Int).fdiv (2 ^ k)=((w >>> k).toNat:Int):=by
   rw[h2,Int.fdiv_eq_ediv_of_nonneg _ (Int.natCast_nonneg _),BitVec.toNat_ushiftRight,Nat.shiftRight_eq_div_pow];rfl
 have h4:BitVec.ofInt IntKind.u8.bits 1=1#8:=rfl
 rw[h3,MC,h4]
 have h6:IntKind.u8.wrap ((w >>> k &&& 1#8).toNat:Int)=((w >>> k &&& 1#8).toNat:Int):=Ee _
 refine (congrArg (fun z=>decide (z=1)) h6).trans ?_
 have h5:(w >>> k &&& 1#8).toNat=if w.getLsbD k then 1 else 0:=by
   have:=BitVec.and_one_eq_setWidth_ofBool_getLsbD (x:=w >>> k)
   rw[this,BitVec.getLsbD_ushiftRight,Nat.add_zero]
   cases w.getLsbD k <;> rfl
 rw[h5]
 cases w.getLsbD k <;> simp
theorem Vy (c:Sp){x:Nat}(_hx:x<24):(wp c (x / 8)).getLsbD (x % 8)=c.getLsbD x:=by
 rw[jN _ _ (by omega)]
 congr 1;omega
theorem agF (c:Sp){x:Nat}(hx:x<24):decide (IntKind.u8.wrap (BitVec.ofInt IntKind.u8.bits (((wp c (x / 8)).toNat:Int).fdiv (2 ^ (min (((x % 8:Nat):Nat):Int).toNat IntKind.u8.bits))) &&& BitVec.ofInt IntKind.u8.bits 1).toNat=1)=c.getLsbD x:=by
 rw[PQ _ (by omega),Vy c hx]
section
variable {P:Program}{κ:Cx}{L:Loc}{H:Hp}{ty t t':TypeId}{x y:Operand}
end
def wL (f:Nat→BitVec 8→BitVec 8)(c:Sp):Nat→Sp
 | 0=>c
 | i+1=>HY (wL f c i) i (f i (wp (wL f c i) i))
theorem zW (f:Nat→BitVec 8→BitVec 8)(c:Sp):∀ (i:Nat),i≤3→∀ k,k<3→wp (wL f c i) k=if k<i then f k (wp c k) else wp c k
 | 0,_,k,_=>by simp[wL]
 | i+1,hi,k,hk=>by
   unfold wL
   rw[tM _ _ (by omega) hk]
   have ih:=fun k hk=>zW f c i (by omega) k hk
   by_cases e:i=k
   · subst e
     rw[if_pos rfl,if_pos (by omega),ih i (by omega),if_neg (by omega)]
   · rw[if_neg e,ih k hk]
     by_cases h:k<i
     · rw[if_pos h,if_pos (by omega)]
     · rw[if_neg h,if_neg (by omega)]
theorem aaG (a b:Sp)(k:Nat):wp (a ||| b) k=wp a k ||| wp b k:=by
 apply BitVec.eq_of_getLsbD_eq
 intro j hj
 rw[jN _ _ hj,BitVec.getLsbD_or,BitVec.getLsbD_or,jN _ _ hj,jN _ _ hj]
theorem Dr (a b:Sp)(k:Nat):wp (a &&& b) k=wp a k &&& wp b k:=by
 apply BitVec.eq_of_getLsbD_eq
 intro j hj
 rw[jN _ _ hj,BitVec.getLsbD_and,BitVec.getLsbD_and,jN _ _ hj,jN _ _ hj]
theorem Pv (a b:Sp):wL (fun i w=>w ||| wp b i) a 3=a ||| b:=zp fun i hi=>by rw[zW _ _ 3 (by omega) i hi,if_pos hi,aaG]
theorem Kn (a b:Sp):wL (fun i w=>w &&& wp b i) a 3=a &&& b:=zp fun i hi=>by rw[zW _ _ 3 (by omega) i hi,if_pos hi,Dr]
end Go.HL.cm
namespace Go.HL.cm
open Go Go.HL Go.HL.Kl Go.HL.Kl.Mc
structure Pt where
 n00:Bool
 n01:Bool
 n10:Bool
 n11:Bool
 f0:Sp
 f1:Sp
 l0:Sp
 l1:Sp
def Epn (p:Pt):List Value:=[.bool p.n00,.bool p.n01,.bool p.n10,.bool p.n11]
def Epl (p:Pt):List Value:=E3 p.f0++(E3 p.f1++(E3 p.l0++E3 p.l1))
def dm (p:Pt):List Value:=Epn p++Epl p
theorem rC (s:Sp):(E3 s).length=3:=rfl
instance:eB dm 16:=⟨fun p=>rfl,fun p v hv=>by
 simp only[dm,Epn,Epl,List.mem_cons,List.mem_append,List.not_mem_nil,or_false] at hv
 rcases hv with (rfl|rfl|rfl|rfl)|hv|hv|hv|hv
 · rfl
 · rfl
 · rfl
 · rfl
 all_goals exact l4 _ v hv⟩
def bN:Pt:=⟨false,false,false,false,0,0,0,0⟩
def bu:Pt:=⟨true,true,true,true,0,0,0,0⟩
structure fk where
 sets:List Kl.Cl
 fol:List Sp
def fl (fol:List Sp)(a b:Sp):List Sp:=fol.mapIdx fun p s=>if a.getLsbD p then s ||| b else s
def fk.join (x:fk)(a b:Sp):fk:={ x with fol:=fl x.fol a b }
def GR (s:Sp)(b:Bool)(t:Sp):Sp:=if b then s ||| t else s
def ji (a b:Pt):Pt:=⟨a.n00&&b.n00,a.n01&&b.n01,a.n10&&b.n10,a.n11&&b.n11,GR a.f0 a.n00 b.f0,GR a.f1 a.n10 b.f1,GR b.l0 b.n00 a.l0,GR b.l1 b.n01 a.l1⟩
def ib (a b:Pt):Pt:=⟨a.n00||b.n00,a.n01||b.n01,a.n10||b.n10,a.n11||b.n11,a.f0 ||| b.f0,a.f1 ||| b.f1,a.l0 ||| b.l0,a.l1 ||| b.l1⟩
abbrev Mk:=fk→Pt×fk
def cU (a:Pt)(m:Mk):Mk:=fun x=>(ji a (m x).1,(m x).2.join a.l0 (m x).1.f0)
def jS (m:Mk)(b:Pt):Mk:=fun x=>(ji (m x).1 b,(m x).2.join (m x).1.l0 b.f0)
def iterM (f:Pt→Mk):Nat→Pt→Mk
 | 0,c,x=>(c,x)
 | n+1,c,x=>iterM f n (f c x).1 (f c x).2
def py (k:Mk)(mn mx:Int):Mk:=fun x=>
 let c:=iterM (fun c=>cU c k) mn.toNat bu x
 if mx<0 then
   let a:=k c.2
   let x2:=a.2.join a.1.l0 a.1.f0
   (ji c.1 (ib bu a.1),x2.join c.1.l0 (ib bu a.1).f0)
 else
   let m:=iterM (fun more y=>(ib bu (jS k more y).1,(jS k more y).2)) (mx-mn).toNat bu c.2
   (ji c.1 m.1,m.2.join c.1.l0 m.1.f0)
def mN (s:Kl.Cl):Mk:=fun x=>(⟨false,false,false,false,xd x.sets.length,xd x.sets.length,xd x.sets.length,xd x.sets.length⟩,⟨x.sets++[s],x.fol++[0]⟩)
def lO (n:Nd)(K:Bool→Pt→Mk):Mk:=fun x=>
 if n.op=1 then mN n.set x
 else if n.op=2 then ({ bN with n10:=true,n11:=true },x)
 else if n.op=3 then ({ bN with n01:=true,n11:=true },x)
 else if n.op=4 then K false bu x
 else if n.op=5 then K true bN x
 else if n.op=6 then py (K true bN) n.mn n.mx x
 else if n.op=7 then K true bN x
 else (bN,x)
def dx:F→Bool→Pt→Mk
 | .nil,_,c=>fun x=>(c,x)
 | .nd n ks r,b,c=>fun x=>
   let p:=lO n (dx ks) x
   if b then dx r b (ib c p.1) p.2 else dx r b (ji c p.1) (p.2.join c.l0 p.1.f0)
def aZ (n:Nd)(ks:F):Mk:=lO n (dx ks)
theorem or_zero (s:Sp):(0:Sp) ||| s=s:=by simp
theorem Kt (p:Pt):ib bN p=p:=by
 cases p;simp[ib,bN]
theorem pC (n:Nd)(ks:F):dx (.nd n ks .nil) true bN=aZ n ks:=by
 funext x
 simp only[dx,if_true,Kt,aZ]
def pz (n:Nd):Nat:=if n.mx<0 then n.mn.toNat+1 else n.mx.toNat
def gB:F→Nat
 | .nil=>0
 | .nd n ks r=>(if n.op=1 then 1 else if n.op=6 then pz n*gB ks else if n.op=4∨n.op=5∨n.op=7 then gB ks else 0)+gB r
def eM (n:Nd)(ks:F):Nat:=if n.op=1 then 1 else if n.op=6 then pz n*gB ks else if n.op=4∨n.op=5∨n.op=7 then gB ks else 0
def gj (m:Mk)(n:Nat):Prop:=∀ x,x.fol.length=x.sets.length→(m x).2.sets.length=x.sets.length+n∧(m x).2.fol.length=(m x).2.sets.length
theorem ef (l:List Sp)(a b:Sp):(fl l a b).length=l.length:=by simp[fl]
theorem gj.cat {m:Mk}{n:Nat}(h:gj m n)(a:Pt):gj (cU a m) n:=fun x hx=>⟨(h x hx).1,by simp only[cU,fk.join,ef];exact (h x hx).2⟩
theorem gj.jS {m:Mk}{n:Nat}(h:gj m n)(a:Pt):gj (jS m a) n:=fun x hx=>⟨(h x hx).1,by simp only[cm.jS,fk.join,ef];exact (h x hx).2⟩
theorem gj.iter {f:Pt→Mk}{n:Nat}(h:∀ c,gj (f c) n):∀ k c,gj (iterM f k c) (k*n)
 | 0,c=>fun x hx=>by simp[iterM,hx]
 | k+1,c=>fun x hx=>by
   have h1:=h c x hx
   have h2:=gj.iter h k (f c x).1 (f c x).2 h1.2
   simp only[iterM]
   refine⟨?_,h2.2⟩
   rw[h2.1,h1.1,Nat.succ_mul,Nat.add_assoc,Nat.add_comm n]
theorem gj.rep {m:Mk}{n:Nat}(h:gj m n){nd:Nd}(h0:0≤nd.mn)(h1:nd.mx<0∨nd.mn≤nd.mx):gj (py m nd.mn nd.mx) (pz nd*n):=fun x hx=>by
 have hc:=gj.iter (f:=fun c=>cU c m) (fun c=>h.cat c) nd.mn.toNat bu x hx
 unfold py pz
 by_cases hm:nd.mx<0
 · have ha:=h _ hc.2
   simp only[hm,if_true,fk.join,ef]
   refine⟨?_,ha.2⟩
   rw[ha.1,hc.1,Nat.succ_mul];omega
 · have hb:=gj.iter (f:=fun more y=>(ib bu (cm.jS m more y).1,(cm.jS m more y).2)) (fun c=>fun y hy=>h.jS c y hy) (nd.mx-nd.mn).toNat bu _ hc.2
   simp only[hm,if_false,fk.join,ef]
   refine⟨?_,hb.2⟩
   rw[hb.1,hc.1,Nat.add_assoc,← Nat.add_mul]
   congr 2;omega
theorem um {n:Nd}(h:eH n=true)(h6:n.op=6):0≤n.mn∧(n.mx<0∨n.mn≤n.mx):=by
 simp only[eH,Bool.and_eq_true] at h
 have:=(dy.1 h.1).2.2.2.1 h6
 omega
theorem gj.one {n:Nd}{ks:F}(hw:eH n=true)(h:∀ b c,gj (dx ks b c) (gB ks)):gj (aZ n ks) (eM n ks):=fun x hx=>by
 unfold aZ lO eM
 by_cases h1:n.op=1
 · simp[h1,mN,hx]
 by_cases h2:n.op=2
 · simp[h2,hx]
 by_cases h3:n.op=3
 · simp[h3,hx]
 by_cases h4:n.op=4
 · simpa [h4] using h false bu x hx
 by_cases h5:n.op=5
 · simpa [h5] using h true bN x hx
 by_cases h6:n.op=6
 · obtain⟨a,b⟩:=um hw h6
   simpa [h6] using (h true bN).rep a b x hx
 by_cases h7:n.op=7
 · simpa [h7] using h true bN x hx
 simp[h1,h2,h3,h4,h5,h6,h7,hx]
theorem gj.kids:∀ (f:F),f.wf→∀ b c,gj (dx f b c) (gB f)
 | .nil,_,b,c=>fun x hx=>by simp[dx,gB,hx]
 | .nd n ks r,hw,b,c=>fun x hx=>by
   have h1:=gj.one hw.1 (gj.kids ks hw.2.2.1) x hx
   have e:gB (.nd n ks r)=eM n ks+gB r:=rfl
   rw[e]
   simp only[dx]
   cases b with
   | true=>
     have h2:=gj.kids r hw.2.2.2 true (ib c (aZ n ks x).1) _ h1.2
     simp only[if_true]
     exact⟨by rw[show (dx r true (ib c (lO n (dx ks) x).1) (lO n (dx ks) x).2).2.sets.length=_ from h2.1,h1.1];omega,h2.2⟩
   | false=>
     have h2:=gj.kids r hw.2.2.2 false (ji c (aZ n ks x).1) ((aZ n ks x).2.join c.l0 (aZ n ks x).1.f0) (by simp only[fk.join,ef];exact h1.2)
     simp only[Bool.false_eq_true,if_false]
     exact⟨by rw[show (dx r false (ji c (lO n (dx ks) x).1) ((lO n (dx ks) x).2.join c.l0 (lO n (dx ks) x).1.f0)).2.sets.length=_ from h2.1,show ((aZ n ks x).2.join c.l0 (aZ n ks x).1.f0).sets.length=_ from h1.1];omega,h2.2⟩
theorem nA {n:Nd}{ks:F}(hw:(F.nd n ks .nil).wf):gj (aZ n ks) (eM n ks):=gj.one hw.1 (gj.kids ks hw.2.2.1)
theorem zd:∀ (f:F),f.wf→gB f≤f.weight
 | .nil,_=>Nat.le_refl _
 | .nd n ks r,hw=>by
   have h1:=zd ks hw.2.2.1
   have h2:=zd r hw.2.2.2
   have e:gB (.nd n ks r)=eM n ks+gB r:=rfl
   have e2:(F.nd n ks r).weight=1+times n*ks.weight+r.weight:=rfl
   rw[e,e2]
   have h3:eM n ks≤1+times n*ks.weight:=by
     unfold eM
     have hmul:∀ k,k≤times n→k*gB ks≤times n*ks.weight:=fun k hk=>Nat.mul_le_mul hk h1
     split
     · omega
     · split
       · rename_i h6
         have:=hmul (pz n) (by unfold pz times;split <;> simp_all <;> omega)
         omega
       · split
         · have:=hmul 1 (by unfold times;split <;> (try split) <;> omega)
           omega
         · omega
   omega
def nK (sets:List Kl.Cl)(a:Kl.Cl):Nat→Sp
 | 0=>0
 | p+1=>if (sets[p]?.getD 0) &&& a=0 then nK sets a p else nK sets a p ||| xd p
def fI (sets:List Kl.Cl)(atoms:List Kl.Cl):List Sp:=atoms.map fun a=>nK sets a sets.length
def eF (fol:List Sp)(s:Sp):Nat→Sp
 | 0=>0
 | p+1=>if s.getLsbD p then eF fol s p ||| (fol[p]?.getD 0) else eF fol s p
def dD {α:Type} [DecidableEq α](l:List α)(s:α):List α:=if s∈l then l else l++[s]
theorem EL {α:Type} [DecidableEq α](l:List α)(s:α):(dD l s)[l.idxOf s]?=some s:=by
 unfold dD
 split
 · rename_i h
   rw[List.getElem?_eq_getElem (List.idxOf_lt_length_iff.2 h),List.getElem_idxOf]
 · rename_i h
   rw[List.idxOf_eq_length h];simp
theorem yM {α:Type} [DecidableEq α](l:List α)(s:α):∃ t,dD l s=l++t:=by
 unfold dD
 split
 · exact⟨[],by simp⟩
 · exact⟨[s],rfl⟩
theorem kK {α:Type} [DecidableEq α]{l:List α}(h:l.Nodup)(s:α):(dD l s).Nodup:=by
 unfold dD
 split
 · exact h
 · rename_i hs
   rw[List.nodup_append]
   exact⟨h,by simp,fun a ha b hb=>by simp at hb;subst hb;rintro rfl;exact hs ha⟩
theorem zg {α:Type} [DecidableEq α]{l:List α}{s x:α}:x∈dD l s↔x∈l∨x=s:=by
 unfold dD
 split
 · rename_i h
   constructor
   · exact .inl
   · rintro (h1|rfl)
     · exact h1
     · exact h
 · simp
def dY:List Sp→Sp→List Sp→List Nat×List Sp
 | [],_,met=>([],met)
 | r::rs,fr,met=>((met.idxOf (fr &&& r)+1)::(dY rs fr (dD met (fr &&& r))).1,(dY rs fr (dD met (fr &&& r))).2)
theorem xY (fr:Sp)(r:Sp):∀ (rs:List Sp)(met:List Sp),dY (rs++[r]) fr met=((dY rs fr met).1++[(dY rs fr met).2.idxOf (fr &&& r)+1],dD (dY rs fr met).2 (fr &&& r))
 | [],met=>rfl
 | x::rs,met=>by
   simp only[List.cons_append,dY,xY fr r rs]
theorem lh (fr:Sp):∀ (rs met:List Sp),(dY rs fr met).1.length=rs.length
 | [],met=>rfl
 | r::rs,met=>by simp[dY,lh fr rs]
structure Wd where
 met:List Sp
 next:List (List Nat)
 ends:List Bool
def Wd.row (w:Wd)(rds:List Sp)(fr:Sp)(e:Bool):Wd:=⟨(dY rds fr w.met).2,w.next++[(dY rds fr w.met).1],w.ends++[e]⟩
def lP (fol:List Sp)(rds:List Sp)(l1:Sp)(q:Nat)(w:Wd):Wd:=
 w.row rds (eF fol (w.met[q]?.getD 0) fol.length) (decide ((w.met[q]?.getD 0) &&& l1≠0))
def gF (fol:List Sp)(rds:List Sp)(l1:Sp):Nat→Nat→Wd→Wd
 | 0,_,w=>w
 | f+1,q,w=>if q<w.met.length then gF fol rds l1 f (q+1) (lP fol rds l1 q w) else w
def ur (rds:List Sp)(root:Pt):Wd:=Wd.row ⟨[],[],[]⟩ rds root.f1 root.n11
def full:Nat:=16777217
def dJ (x:fk)(root:Pt)(atoms:List Kl.Cl):Wd:=gF x.fol (fI x.sets atoms) root.l1 full 0 (ur (fI x.sets atoms) root)
theorem fJ {l:List Nat}(hn:l.Nodup){n:Nat}(h:∀ x∈l,x<n):l.length≤n:=by
 have:l ⊆ List.range n:=fun x hx=>List.mem_range.2 (h x hx)
 have:=hn.length_le_of_subset this
 simpa using this
theorem kO {l:List Sp}(hn:l.Nodup):l.length≤16777216:=by
 have h1:(l.map BitVec.toNat).Nodup:=by
   rw[List.nodup_iff_pairwise_ne,List.pairwise_map]
   exact hn.imp fun h he=>h (BitVec.eq_of_toNat_eq he)
 have:=fJ h1 (n:=16777216) (fun x hx=>by
   obtain⟨s,_,rfl⟩:=List.mem_map.1 hx
   exact s.isLt)
 simpa using this
theorem jw (fr:Sp):∀ (rs met:List Sp),met.Nodup→(dY rs fr met).2.Nodup
 | [],met,h=>h
 | r::rs,met,h=>jw fr rs _ (kK h _)
theorem Da {fol rds:List Sp}{l1:Sp}{f q:Nat}{w:Wd}(hf:q+f=full)(hn:w.met.Nodup)(h:q<w.met.length):gF fol rds l1 f q w=gF fol rds l1 (f-1) (q+1) (lP fol rds l1 q w)∧(q+1)+(f-1)=full:=by
 have:=kO hn
 obtain⟨g,rfl⟩:∃ g,f=g+1:=⟨f-1,by unfold full at hf;omega⟩
 exact⟨by simp[gF,h],by omega⟩
theorem G3 {fol rds:List Sp}{l1:Sp}{f q:Nat}{w:Wd}(h:¬ q<w.met.length):gF fol rds l1 f q w=w:=by
 cases f with
 | zero=>rfl
 | succ f=>simp[gF,h]
def idx {α:Type} [DecidableEq α]:List α→α→Nat
 | [],_=>0
 | x::l,s=>if x=s then 0 else idx l s+1
def fC:List (Nat×Nat)→List (Nat×Nat)→List Nat×List (Nat×Nat)
 | [],seen=>([],seen)
 | p::ps,seen=>(idx seen p::(fC ps (dD seen p)).1,(fC ps (dD seen p)).2)
theorem rP (p:Nat×Nat):∀ (ps seen:List (Nat×Nat)),fC (ps++[p]) seen=((fC ps seen).1++[idx (fC ps seen).2 p],dD (fC ps seen).2 p)
 | [],seen=>rfl
 | x::ps,seen=>by simp only[List.cons_append,fC,rP p ps]
theorem lz:∀ (ps seen:List (Nat×Nat)),(fC ps seen).1.length=ps.length
 | [],_=>rfl
 | p::ps,seen=>by simp[fC,lz ps]
def mI (next:List (List Nat))(part:List Nat)(k:Nat):List Nat:=next.map fun row=>part[row[k]?.getD 0]?.getD 0
def bc (next:List (List Nat))(part:List Nat):Nat→List Nat×List (Nat×Nat)
 | 0=>(part,[])
 | k+1=>fC ((bc next part k).1.zip (mI next part k)) []
def iT (next:List (List Nat))(K:Nat):Nat→Nat→List Nat→List Nat
 | 0,_,part=>part
 | f+1,many,part=>if (bc next part K).2.length=many then part else iT next K f (bc next part K).2.length (bc next part K).1
def fA (ends:List Bool):List Nat:=ends.map fun e=>if e then 1 else 0
def gZ (next:List (List Nat))(ends:List Bool)(K:Nat):List Nat:=iT next K (ends.length+2) 0 (fA ends)
inductive Live (next:List (List Nat))(ends:List Bool):Nat→Prop
 | ends {q:Nat}(h:ends[q]?=some true):Live next ends q
 | step {q to:Nat}{row:List Nat}(hr:next[q]?=some row)(hm:to∈row)(h:Live next ends to):Live next ends q
structure Lm where
 met:List Nat
 next:List (List Int)
 ends:List Bool
def jQ (part:List Nat)(lv:List Bool)(met:List Nat)(to:Nat):Int×List Nat:=
 if lv[to]?.getD false=false then (-1,met)
 else ((idx (met.map fun m=>part[m]?.getD 0) (part[to]?.getD 0):Nat),if part[to]?.getD 0∈met.map (fun m=>part[m]?.getD 0) then met else met++[to])
def cz (part:List Nat)(lv:List Bool):List Nat→List Nat→List Int×List Nat
 | [],met=>([],met)
 | to::r,met=>((jQ part lv met to).1::(cz part lv r (jQ part lv met to).2).1,(cz part lv r (jQ part lv met to).2).2)
theorem vY (part:List Nat)(lv:List Bool)(to:Nat):∀ (r met:List Nat),cz part lv (r++[to]) met=((cz part lv r met).1++[(jQ part lv (cz part lv r met).2 to).1],(jQ part lv (cz part lv r met).2 to).2)
 | [],met=>rfl
 | x::r,met=>by simp only[List.cons_append,cz,vY part lv to r]
theorem rQ (part:List Nat)(lv:List Bool):∀ (r met:List Nat),(cz part lv r met).1.length=r.length
 | [],_=>rfl
 | x::r,met=>by simp[cz,rQ part lv r]
def gH (w:Wd)(part:List Nat)(lv:List Bool)(i:Nat)(m:Lm):Lm:=
 let q:=m.met[i]?.getD 0
 let r:=cz part lv (w.next[q]?.getD []) m.met
 ⟨r.2,m.next++[r.1],m.ends++[w.ends[q]?.getD false]⟩
def gJ (w:Wd)(part:List Nat)(lv:List Bool):Nat→Nat→Lm→Option Lm
 | 0,_,_=>none
 | f+1,i,m=>if i<m.met.length then (if 256<m.met.length then none else gJ w part lv f (i+1) (gH w part lv i m)) else some m
def VW (w:Wd)(part:List Nat)(lv:List Bool):Option Lm:=gJ w part lv 258 0 ⟨[0],[],[]⟩
structure Df where
 next:List (List Int)
 ends:List Bool
 atoms:List Kl.Cl
 deriving DecidableEq
def bB (re:List Nd):List Kl.Cl:=(re.filter fun n=>decide (n.op=1)).map Nd.set
def okB (re:List Nd)(sh rf:Bool)(wt:Nat):Int:=if sh=false then 49 else if rf then 44 else if 20<wt then 48 else 0
def aqk (atoms:List Kl.Cl)(n:Nd)(ks:F)(lv:List Bool):Option Df:=
 let r:=aZ n ks ⟨[],[]⟩
 let w:=dJ r.2 r.1 atoms
 (VW w (gZ w.next w.ends atoms.length) lv).map fun m=>⟨m.next,m.ends,atoms⟩
end Go.HL.cm
namespace Go.HL.Kl
open Go Go.HL
def aka (p:List Nat):Cl:=p.foldl (fun c b=>c ||| bit b) 0
def orR (l:List (Nat×Nat)):Cl:=l.foldl (fun c r=>c ||| Gz r.1 r.2) 0
def apG (l:List (Nat×Nat)):Nat:=(l.map fun r=>r.2+1-r.1).sum
def apH (l:List (Nat×Nat)):Prop:=∀ i g,l[i]?=some g→g.1≤g.2∧g.2<256∧∀ q,0<i→l[i-1]?=some q→q.2+1<g.1
end Go.HL.Kl
namespace Go.HL.cm
open Go Go.HL Go.HL.Kl Go.HL.Kl.Mc
def r8 : Kl.Cl := ~~~(0#256)
def fz (a:Kl.Cl):Int:=if fV a = [] then -1 else (least a:Nat)
def A7:List Kl.Cl→Kl.Cl→Int→Bool
 | [],all,_=>decide (all=r8)
 | a::l,all,last=>if fz a≤last∨all &&& a≠0 then false else A7 l (all ||| a) (fz a)
def qm (n K:Nat)(row:List Int):Prop:=row.length=K∧∀ x∈row,-1≤x∧x<n
instance (n K:Nat)(row:List Int):Decidable (qm n K row):=by unfold qm;infer_instance
def m7 (d:Df):Prop:=1≤d.ends.length∧d.ends.length≤256∧d.next.length=d.ends.length∧1≤d.atoms.length∧d.atoms.length≤256
instance (d:Df):Decidable (m7 d):=by unfold m7;infer_instance
def wb (d:Df):Bool:=decide (m7 d)&&(A7 d.atoms 0 (-1)&&decide (∀ r∈d.next,qm d.ends.length d.atoms.length r))
def aev (l:List Kl.Cl)(b:Nat):Nat:=l.countP fun a=>a.getLsbD b
def hasAll (l:List Kl.Cl):Bool:=(List.range 256).all fun b=>decide (aev l b=1)
def ek (a:Kl.Cl):Nat:=if fV a = [] then 0 else least a
def TP (l:List Kl.Cl)(k:Nat):Bool:=match l[k]? with
 | some a=>decide (size a≠0)&&(decide (k=0)||decide (ek ((l[k-1]?).getD 0)≤ek a))
 | none=>true
def shR (d:Df):Bool:=decide (m7 d)&&(hasAll d.atoms&&(decide (∀ k,k<d.atoms.length→TP d.atoms k=true)&&decide (∀ r∈d.next,qm d.ends.length d.atoms.length r)))
theorem lj {a:Kl.Cl}:fV a = []↔a=0#256:=by
 constructor
 · intro h
   apply jc
   intro j hj
   have:j∉fV a:=by rw[h];simp
   rw[lk] at this
   simp[this]
 · rintro rfl
   rw[List.eq_nil_iff_forall_not_mem]
   intro x hx
   rw[lk] at hx
   simp at hx
theorem dZ {a b:Kl.Cl}:a &&& b=0↔∀ j,j<256→¬ (a.getLsbD j=true∧b.getLsbD j=true):=by
 constructor
 · rintro h j hj ⟨h1,h2⟩
   have:=congrArg (fun c=>BitVec.getLsbD c j) h
   simp[BitVec.getLsbD_and,h1,h2] at this
 · intro h
   apply jc
   intro j hj
   rw[BitVec.getLsbD_and]
   have:=h j hj
   cases e1:a.getLsbD j <;> cases e2:b.getLsbD j <;> simp_all
structure MZ (l:List Kl.Cl):Prop where
 ne:∀ a∈l,a≠0
 dj:l.Pairwise fun a b=>a &&& b=0
 up:l.Pairwise fun a b=>least a<least b
 all:∀ b,b<256→∃ a∈l,a.getLsbD b=true
theorem xK {a:Kl.Cl}{last:Int}(h:-1≤last):¬ fz a≤last↔a≠0∧last<(least a:Nat):=by
 unfold fz
 by_cases e:fV a = []
 · rw[if_pos e]
   have:=lj.1 e
   constructor
   · intro h';omega
   · rintro⟨h1,_⟩;exact absurd this h1
 · rw[if_neg e]
   constructor
   · intro h'
     exact⟨fun h0=>e (lj.2 h0),by omega⟩
   · rintro⟨_,h'⟩;omega
def qn (l:List Kl.Cl)(c:Kl.Cl):Kl.Cl:=l.foldl (· ||| ·) c
theorem rH:∀ (l:List Kl.Cl)(c:Kl.Cl)(j:Nat),(qn l c).getLsbD j=true↔c.getLsbD j=true∨∃ a∈l,a.getLsbD j=true
 | [],c,j=>by simp[qn]
 | a::l,c,j=>by
   have:=rH l (c ||| a) j
   simp only[qn,List.foldl_cons] at this ⊢
   rw[this,BitVec.getLsbD_or]
   simp only[Bool.or_eq_true,List.mem_cons]
   constructor
   · rintro ((h|h)|⟨x,hx,h⟩)
     · exact .inl h
     · exact .inr ⟨a,.inl rfl,h⟩
     · exact .inr ⟨x,.inr hx,h⟩
   · rintro (h|⟨x,rfl|hx,h⟩)
     · exact .inl (.inl h)
     · exact .inl (.inr h)
     · exact .inr ⟨x,hx,h⟩
theorem A8 {j:Nat}(hj:j<256):r8.getLsbD j=true:=by
 unfold r8
 rw[BitVec.getLsbD_not];simp[hj]
theorem Fy:∀ (l:List Kl.Cl)(all:Kl.Cl)(last:Int),-1≤last→(A7 l all last=true↔(∀ a∈l,a≠0∧last<(least a:Nat)∧all &&& a=0)∧l.Pairwise (fun a b=>a &&& b=0)∧l.Pairwise (fun a b=>least a<least b)∧qn l all=r8)
 | [],all,last,_=>by simp[A7,qn]
 | a::l,all,last,hl=>by
   unfold A7
   by_cases h:fz a≤last∨all &&& a≠0
   · rw[if_pos h]
     simp only[Bool.false_eq_true,false_iff]
     rintro⟨h1,_⟩
     obtain⟨ha,hb,hc⟩:=h1 a List.mem_cons_self
     rcases h with h|h
     · exact (xK hl).2 ⟨ha,hb⟩ h
     · exact h hc
   · rw [if_neg h]
     have h1:¬ fz a≤last:=fun h'=>h (.inl h')
     have h2:all &&& a=0:=by
       by_cases e:all &&& a=0
       · exact e
       · exact absurd (.inr e) h
     obtain⟨ha,hb⟩:=(xK hl).1 h1
     have hf:fz a=(least a:Nat):=by
       unfold fz
       rw[if_neg (fun e=>ha (lj.1 e))]
     rw [hf, Fy l (all ||| a) (least a : Nat) (by omega)]
     have hor:qn (a::l) all=qn l (all ||| a):=rfl
     rw[hor,List.pairwise_cons,List.pairwise_cons]
     constructor
     · rintro⟨p,q,r,s⟩
       refine⟨fun x hx=>?_,⟨fun x hx=>?_,q⟩,⟨fun x hx=>?_,r⟩,s⟩
       · rcases List.mem_cons.1 hx with rfl|hx
         · exact⟨ha,hb,h2⟩
         · obtain⟨p1,p2,p3⟩:=p x hx
           refine⟨p1,by omega,dZ.2 fun j hj hh=>dZ.1 p3 j hj ⟨by rw[BitVec.getLsbD_or,hh.1];rfl,hh.2⟩⟩
       · exact dZ.2 fun j hj hh=>dZ.1 (p x hx).2.2 j hj ⟨by rw[BitVec.getLsbD_or,hh.1,Bool.or_true],hh.2⟩
       · have:=(p x hx).2.1
         omega
     · rintro⟨p,⟨q0,q⟩,⟨r0,r⟩,s⟩
       refine⟨fun x hx=>?_,q,r,s⟩
       obtain⟨p1,p2,p3⟩:=p x (List.mem_cons_of_mem _ hx)
       refine⟨p1,by have:=r0 x hx;omega,dZ.2 fun j hj hh=>?_⟩
       obtain⟨h3,h4⟩:=hh
       rw[BitVec.getLsbD_or,Bool.or_eq_true] at h3
       rcases h3 with h3|h3
       · exact dZ.1 p3 j hj ⟨h3,h4⟩
       · exact dZ.1 (q0 x hx) j hj ⟨h3,h4⟩
theorem OG {l:List Kl.Cl}:A7 l 0 (-1)=true↔MZ l:=by
 rw[Fy l 0 (-1) (by omega)]
 constructor
 · rintro⟨a,b,c,d⟩
   refine⟨fun x hx=>(a x hx).1,b,c,fun j hj=>?_⟩
   have:=(rH l 0 j).1 (by rw[d];exact A8 hj)
   rcases this with h|h
   · simp at h
   · exact h
 · rintro⟨a,b,c,d⟩
   refine⟨fun x hx=>⟨a x hx,by omega,by simp⟩,b,c,?_⟩
   apply jc
   intro j hj
   rw[A8 hj,(rH l 0 j).2 (.inr (d j hj))]
theorem rI {a:Kl.Cl}(h:a≠0):ek a=least a:=by
 unfold ek
 rw[if_neg (fun e=>h (lj.1 e))]
structure iR (d:Df):Prop where
 sz:m7 d
 atm:MZ d.atoms
 rows:∀ r∈d.next,qm d.ends.length d.atoms.length r
theorem yD {d:Df}:wb d=true↔iR d:=by
 simp only[wb,Bool.and_eq_true,decide_eq_true_eq,OG]
 exact⟨fun h=>⟨h.1,h.2.1,h.2.2⟩,fun h=>⟨h.sz,h.atm,h.rows⟩⟩
def lC (l:List Kl.Cl)(b:Nat):Nat→Nat
 | 0=>0
 | i+1=>if (l[i]?.getD 0).getLsbD b then i else lC l b i
def uT (l:List Kl.Cl)(b:Nat):Nat:=l.findIdx fun a=>a.getLsbD b
theorem MZ.fst {l:List Kl.Cl}(h:MZ l){b:Nat}(hb:b<256):∃ hk:uT l b<l.length,(l[uT l b]).getLsbD b=true:=by
 obtain⟨a,ha,hh⟩:=h.all b hb
 have:=List.findIdx_lt_length_of_exists (xs:=l) (p:=fun a=>a.getLsbD b) ⟨a,ha,hh⟩
 exact⟨this,List.findIdx_getElem (w:=this)⟩
theorem MZ.uniq {l:List Kl.Cl}(h:MZ l){b i j:Nat}(hb:b<256)(hi:i<l.length)(hj:j<l.length)(h1:(l[i]).getLsbD b=true)(h2:(l[j]).getLsbD b=true):i=j:=by
 rcases Nat.lt_trichotomy i j with nn|nn|nn
 · exact absurd ⟨h1,h2⟩ (dZ.1 (List.pairwise_iff_getElem.1 h.dj i j hi hj nn) b hb)
 · exact nn
 · exact absurd ⟨h2,h1⟩ (dZ.1 (List.pairwise_iff_getElem.1 h.dj j i hj hi nn) b hb)
def CY (d:Df)(q:Int)(k:Nat):Int:=((d.next[q.toNat]?.getD [])[k]?).getD 0
def Im (d:Df):List UInt8→Int→Bool
 | [],q=>d.ends[q.toNat]?.getD false
 | b::t,q=>if CY d q (lC d.atoms b.toNat d.atoms.length)<0 then false else Im d t (CY d q (lC d.atoms b.toNat d.atoms.length))
def oC (d:Df)(t:List UInt8):Bool:=wb d&&Im d t 0
def qp (d:Df)(q:Int)(b:Nat):Int:=if q<0 then -1 else if uT d.atoms b<d.atoms.length then CY d q (uT d.atoms b) else -1
def iL (d:Df)(q:Int):Bool:=decide (0≤q)&&d.ends[q.toNat]?.getD false
def tkR (d:Df)(t:List UInt8)(q:Int):Int:=t.foldl (fun q b=>qp d q b.toNat) q
def aew (d:Df)(t:List UInt8):Bool:=shR d&&iL d (tkR d t 0)
theorem iR.TR {d:Df}(h:iR d){q:Int}(h0:0≤q)(h1:q<d.ends.length){k:Nat}(hk:k<d.atoms.length):-1≤CY d q k∧CY d q k<d.ends.length:=by
 have hq:q.toNat<d.next.length:=by have:=h.sz.2.2.1;omega
 obtain⟨h2,h3⟩:=h.rows _ (List.getElem_mem hq)
 unfold CY
 rw[List.getElem?_eq_getElem hq,Option.getD_some,List.getElem?_eq_getElem (by omega),Option.getD_some]
 exact h3 _ (List.getElem_mem _)
theorem oq (l:List Kl.Cl)(b:Nat)(h:1≤l.length):lC l b l.length<l.length:=by
 have:∀ n,lC l b n≤n-1:=by
   intro n
   induction n with
   | zero=>simp[lC]
   | succ n ih=>unfold lC;split <;> omega
 have:=this l.length
 omega
def oB (p:Pt)(i:Nat):Sp:=if i=0 then p.f0 else p.f1
def mF (p:Pt)(i:Nat):Sp:=if i=0 then p.l0 else p.l1
def jX (p:Pt)(i k:Nat):Bool:=if i=0 then (if k=0 then p.n00 else p.n01) else (if k=0 then p.n10 else p.n11)
def He (p:Pt)(i:Nat)(s:Sp):Pt:=if i=0 then { p with f0:=s } else { p with f1:=s }
def Hg (p:Pt)(i:Nat)(s:Sp):Pt:=if i=0 then { p with l0:=s } else { p with l1:=s }
def Dk (p:Pt)(i k:Nat)(b:Bool):Pt:=if i=0 then (if k=0 then { p with n00:=b } else { p with n01:=b }) else (if k=0 then { p with n10:=b } else { p with n11:=b })
theorem two {i:Nat}(h:i<2):i=0∨i=1:=by omega
theorem three {i:Nat}(h:i<3):i=0∨i=1∨i=2:=by omega
theorem tF (p:Pt):(dm p).length=16:=rfl
theorem Kz {s:Sp}{j:Nat}{u:Value}(h:(E3 s)[j]?=some u):j<3:=by
 have:=(List.getElem?_eq_some_iff.1 h).1
 simpa [E3] using this
theorem r5 {p:Pt}{i off:Nat}(hi:i<2)(ho:off=4+i*3):∀ j u,(E3 (oB p i))[j]?=some u→(dm p)[off+j]?=some u:=by
 intro j u h
 subst ho
 have hj:=Kz h
 rcases two hi with rfl|rfl <;> rcases three hj with rfl|rfl|rfl <;> exact h
theorem r6 {p:Pt}{i off:Nat}(hi:i<2)(ho:off=10+i*3):∀ j u,(E3 (mF p i))[j]?=some u→(dm p)[off+j]?=some u:=by
 intro j u h
 subst ho
 have hj:=Kz h
 rcases two hi with rfl|rfl <;> rcases three hj with rfl|rfl|rfl <;> exact h
theorem qe {p:Pt}{i k off:Nat}(hi:i<2)(hk:k<2)(ho:off=i*2+k):(dm p)[off]?=some (.bool (jX p i k)):=by
 subst ho
 rcases two hi with rfl|rfl <;> rcases two hk with rfl|rfl <;> rfl
theorem vg {p:Pt}{i off:Nat}{s:Sp}(hi:i<2)(ho:off=4+i*3):bP (dm p) off (E3 s)=dm (He p i s):=by
 subst ho
 rcases two hi with rfl|rfl <;> rfl
theorem vh {p:Pt}{i off:Nat}{s:Sp}(hi:i<2)(ho:off=10+i*3):bP (dm p) off (E3 s)=dm (Hg p i s):=by
 subst ho
 rcases two hi with rfl|rfl <;> rfl
theorem qh {p:Pt}{i k off:Nat}{b:Bool}(hi:i<2)(hk:k<2)(ho:off=i*2+k):(dm p).set off (.bool b)=dm (Dk p i k b):=by
 subst ho
 rcases two hi with rfl|rfl <;> rcases two hk with rfl|rfl <;> rfl
def OC (p b:Pt)(i:Nat):Pt:=Hg (He p i (oB p i ||| oB b i)) i (mF p i ||| mF b i)
def mM (p b:Pt)(i:Nat):Nat→Pt
 | 0=>p
 | k+1=>Dk (mM p b i k) i k (jX (mM p b i k) i k||jX b i k)
def qi (a b:Pt):Nat→Pt
 | 0=>a
 | i+1=>mM (OC (qi a b i) b i) b i 2
theorem Hh (a b:Pt):qi a b 2=ib a b:=by cases a;cases b;rfl
theorem KA {p b:Pt}{i k:Nat}(h:jX (mM p b i k) i k=true):Dk (mM p b i k) i k true=mM p b i (k+1):=by simp[mM,h]
theorem KB {p b:Pt}{i k:Nat}(h:jX (mM p b i k) i k=false):Dk (mM p b i k) i k (jX b i k)=mM p b i (k+1):=by simp[mM,h]
def wM (c a b:Pt)(i:Nat):Pt:=Hg (He c i (oB a i)) i (mF b i)
def vi (c a b:Pt)(i:Nat):Pt:=if jX a i 0 then He c i (oB c i ||| oB b i) else c
def A2 (c a b:Pt)(i:Nat):Pt:=if jX b 0 i then Hg c i (mF c i ||| mF a i) else c
def vj (c a b:Pt)(i:Nat):Nat→Pt
 | 0=>c
 | k+1=>Dk (vj c a b i k) i k (jX a i k&&jX b i k)
def m6 (a b:Pt):Nat→Pt
 | 0=>bN
 | i+1=>vj (A2 (vi (wM (m6 a b i) a b i) a b i) a b i) a b i 2
theorem Hi (a b:Pt):m6 a b 2=ji a b:=by
 obtain⟨a0,a1,a2,a3,a4,a5,a6,a7⟩:=a
 obtain⟨b0,b1,b2,b3,b4,b5,b6,b7⟩:=b
 cases a0 <;> cases a2 <;> cases b0 <;> cases b1 <;> rfl
theorem KC {c a b:Pt}{i k:Nat}(h:jX a i k=true):Dk (vj c a b i k) i k (jX b i k)=vj c a b i (k+1):=by simp[vj,h]
theorem KD {c a b:Pt}{i k:Nat}(h:jX a i k=false):Dk (vj c a b i k) i k false=vj c a b i (k+1):=by simp[vj,h]
theorem TE {c a b:Pt}{i:Nat}(h:jX a i 0=true):He c i (oB c i ||| oB b i)=vi c a b i:=by simp[vi,h]
theorem TF {c a b:Pt}{i:Nat}(h:¬ jX a i 0=true):vi c a b i=c:=by simp[vi,h]
theorem TH {c a b:Pt}{i:Nat}(h:jX b 0 i=true):Hg c i (mF c i ||| mF a i)=A2 c a b i:=by simp[A2,h]
theorem TJ {c a b:Pt}{i:Nat}(h:¬ jX b 0 i=true):A2 c a b i=c:=by simp[A2,h]
theorem OD {c a b:Pt}{i:Nat}:Hg (He c i (oB a i)) i (mF b i)=wM c a b i:=rfl
theorem xH {l:List Sp}{a b:Sp}{p:Nat}{s:Sp}(h:l[p]?=some s):(fl l a b)[p]?=some (if a.getLsbD p then s ||| b else s):=by
 simp[fl,h]
def gN (l:List Sp)(a b:Sp)(n:Nat):List Sp:=(fl l a b).take n++l.drop n
theorem Dl (l:List Sp)(a b:Sp)(n:Nat):(gN l a b n).length=l.length:=by
 simp[gN,ef];omega
theorem Dm {l:List Sp}{a b:Sp}{n:Nat}{s:Sp}(h:l[n]?=some s):(gN l a b n)[n]?=some s:=by
 have hn:=(List.getElem?_eq_some_iff.1 h).1
 unfold gN
 rw[List.getElem?_append_right (by rw[List.length_take];exact Nat.min_le_left _ _),List.getElem?_drop]
 simp only[List.length_take,ef]
 rw[show n+(n-min n l.length)=n by omega]
 exact h
theorem Dn {l:List Sp}{a b:Sp}{n:Nat}{s:Sp}(h:l[n]?=some s)(ha:a.getLsbD n=true):(gN l a b n).set n (s ||| b)=gN l a b (n+1):=by
 have hn:=(List.getElem?_eq_some_iff.1 h).1
 have hg:=xH (a:=a) (b:=b) h
 rw[if_pos ha] at hg
 unfold gN
 have h1:((fl l a b).take n).length=n:=by simp[ef];omega
 rw[List.set_append_right _ _ (by omega),h1,Nat.sub_self,List.drop_eq_getElem_cons hn,List.set_cons_zero,List.take_add_one,hg]
 simp
theorem Hj {l:List Sp}{a b:Sp}{n:Nat}{s:Sp}(h:l[n]?=some s)(ha:a.getLsbD n=false):gN l a b n=gN l a b (n+1):=by
 have hn:=(List.getElem?_eq_some_iff.1 h).1
 have hg:=xH (a:=a) (b:=b) h
 simp only[ha,Bool.false_eq_true,if_false] at hg
 unfold gN
 rw[List.take_add_one,hg,List.drop_eq_getElem_cons hn]
 rw[List.getElem?_eq_getElem hn] at h
 simp at h
 simp[h]
theorem Dq (l:List Sp)(a b:Sp):gN l a b l.length=fl l a b:=by
 unfold gN
 rw[List.take_of_length_le (by simp[ef]),List.drop_length,List.append_nil]
end Go.HL.cm
namespace Go.HL.cm
open Go Go.HL
theorem Yf {p:Nat}(h:p<24):IntKind.i64.wrap ((p:Int).tdiv 8)=((p / 8:Nat):Int):=by
 have:∀ p:Fin 24,IntKind.i64.wrap ((p.val:Int).tdiv 8)=((p.val / 8:Nat):Int):=by decide +kernel
 exact this ⟨p,h⟩
theorem Yg {p:Nat}(h:p<24):(p:Int).tmod 8=((p % 8:Nat):Int):=by
 have:∀ p:Fin 24,(p.val:Int).tmod 8=((p.val % 8:Nat):Int):=by decide +kernel
 exact this ⟨p,h⟩
theorem Ft {w:BitVec 8}:((w.toNat:Int)=0)↔w=0#8:=by
 constructor
 · intro h;exact BitVec.eq_of_toNat_eq (by simp;omega)
 · rintro rfl;rfl
theorem KF {s t:Sp}{i:Nat}(h:wp s i &&& wp t i≠0#8):s &&& t≠0:=by
 intro e
 apply h
 rw[← Dr,e]
 simp[wp]
theorem OE {s t:Sp}(h:∀ i,i<3→wp s i &&& wp t i=0#8):s &&& t=0:=by
 apply zp
 intro i hi
 rw[Dr,h i hi]
 simp[wp]
theorem Hk {s t:Sp}{n:Nat}(h:∀ i,i<n→wp s i &&& wp t i=0#8)(hn:wp s n &&& wp t n=0#8):∀ i,i<n+1→wp s i &&& wp t i=0#8:=fun i hi=>by
 rcases Nat.lt_or_ge i n with h'|h'
 · exact h i h'
 · have:i=n:=by omega
   subst this;exact hn
end Go.HL.cm
namespace Go.Proofs.YtmompllplidphaaGreatDoor
open Go Go.HL Go.Proofs Go.HL.Kl Go.HL.Kl.Mc Go.HL.cm
theorem Fj (s:Sp)(p:Nat)(hp:p<24):HL.Fn Tryz.prog 96 [.agg (E3 (s)).toArray,.int .i64 p] (fun _=>True) [] (fun v _=>v = .agg (E3 (s ||| xd p)).toArray):=by
 refine aW Tryz.func96 rfl rfl rfl fun w0 hw=>?_
 rw[← Ml s hp]
 refine cR fun _ bI=>?_;refine cB rfl rfl rfl fun b2=>?_;refine aB (l:=E3 0) (by rfl) rfl fun b4=>?_;refine oZ bI (ah fun _ bJ=>?_);refine uv 9 (by kernel_rfl) ?_;refine .op rfl (ba rfl) ?_;refine .op rfl (ab (v':=.int .i64 ((p / 8:Nat):Int)) (Ah rfl rfl (by decide)) (congrArg _ (Yf hp))) ?_;refine .op rfl (dP rfl rfl (by omega)) ?_;refine .op rfl (az rfl ((aI.own aV).iU (j:=p / 8) (m4 _ (by omega)) (by omega))) ?_;refine .op rfl (ba rfl) ?_;refine .op rfl (ab (v':=.int .i64 ((p % 8:Nat):Int)) (jZ rfl rfl (by decide)) (congrArg _ (Yg hp))) ?_;refine .op rfl (ab (v':=Ep (1#8 <<< (p % 8))) (EA rfl rfl (by omega)) (Pu (by omega))) ?_;refine .op rfl (ab (IM rfl rfl) (QZ (wp s (p / 8)) (1#8 <<< (p % 8)))) ?_;refine .op rfl (dP rfl rfl (by omega)) ?_;refine .nil ?_;refine bg rfl rfl rfl bY (by show p / 8<3;omega) rfl ?_
 rw[Dc _ _ (by omega)]
 refine oZ bJ (cR fun _ bK=>?_);refine oS (aD rfl (aI.aO (.own aV)) aS) ?_;refine bf rfl rfl bY aS aS fE ?_;refine oZ bK (aA ?_);refine ?_;exact cr rfl (.agg inferInstance inferInstance rfl (aI.aO (.own aV)) aS (.nil)) (rfl)
theorem Fl (s:Sp)(p:Nat)(hp:p<24):HL.Fn Tryz.prog 108 [.agg (E3 (s)).toArray,.int .i64 p] (fun _=>True) [] (fun v _=>v = .bool (s.getLsbD p)):=by
 refine aW Tryz.func108 rfl rfl rfl fun w0 hw=>?_;refine cR fun _ bI=>?_;refine cB rfl rfl rfl fun b2=>?_;refine oA (oZ bI (cR fun _ bJ=>?_));refine oM ?_;refine oS (ab (v':=.int .i64 ((p / 8:Nat):Int)) (Ah rfl rfl (by decide)) (congrArg _ (Yf hp))) ?_;refine oS (dP rfl rfl (by omega)) ?_;refine oS (az rfl ((aI.own aV).iU (j:=p / 8) (m4 _ (by omega)) (by omega))) ?_;refine oM ?_;refine oS (ab (v':=.int .i64 ((p % 8:Nat):Int)) (jZ rfl rfl (by decide)) (congrArg _ (Yg hp))) ?_;refine oS (j6 rfl rfl (by omega)) ?_;refine oS (gW rfl rfl) ?_;refine oS (ab (v':=.bool (s.getLsbD p)) (bO rfl rfl) (congrArg Value.bool (agF s hp))) ?_;refine oA (oZ bJ (aA ?_));refine ?_;exact xR rfl rfl (rfl)
theorem rA (a b:Sp):HL.Fn Tryz.prog 109 [.agg (E3 (a)).toArray,.agg (E3 (b)).toArray] (fun _=>True) [] (fun v _=>v = .agg (E3 (a ||| b)).toArray):=by
 refine aW Tryz.func109 rfl rfl rfl fun w0 hw=>?_
 rw[← Pv a b]
 refine cR fun _ bI=>?_;refine cB rfl rfl rfl fun b2=>?_;refine cB rfl rfl rfl fun b3=>?_;refine aB (l:=E3 0) (by rfl) rfl fun b4=>?_;refine oZ bI (ah fun _ bJ=>?_);refine cR fun _ bK=>?_;refine oM (oZ bK (ai ?_));refine aL (fun (i:Nat)=>i≤3) (fun (i:Nat)=>[(6,.int .i64 i)]) [(2,_),(3,_),(4,_)] (fun (i:Nat)=>[(b4,.cells (E3 0).toArray 90 (0,0)),(b3,.cells (E3 (b)).toArray 90 (0,0)),(b2,.cells (E3 ((wL (fun i w=>w ||| wp b i) a i))).toArray 90 (0,0))]) (fun (i:Nat)=>3-i) 0 (by omega) aH aH aP ?_
 rintro i hI
 refine cR fun _ bU=>?_;refine oS (aF rfl rfl) ?_;refine oZ bU (ah fun _ bT=>?_);refine cx rfl (fun cH=>?_) (fun cH=>?_)
 ·refine ax (xZ bT (ah fun _ bZ=>?_));refine ai (cR fun _ cj=>?_);refine oM (oA (oZ cj ?_));refine uv 8 (by kernel_rfl) ?_;refine .op rfl (ba rfl) ?_;refine .op rfl (dP rfl rfl (by omega)) ?_;refine .op rfl (az rfl ((aI.own aV).iU (j:=i) (m4 _ (by omega)) (by omega))) ?_;refine .op rfl (ba rfl) ?_;refine .op rfl (dP rfl rfl (by omega)) ?_;refine .op rfl (az rfl ((aI.own aV).iU (j:=i) (m4 _ (by omega)) (by omega))) ?_;refine .op rfl (ab (IM rfl rfl) (QZ (wp _ i) (wp b i))) ?_;refine .op rfl (dP rfl rfl (by omega)) ?_;refine .nil ?_;refine bg rfl rfl rfl bY (by show i<3;omega) rfl ?_
  rw[Dc _ _ (by omega)]
  refine ak (aq (xZ bZ (ae ?_)));refine oS sD (oM (ak ?_));exact xI (i+1) (by omega)
 ·obtain rfl:i=3:=by omega
  refine ay ?_;refine ad (ad (ag (xZ bJ (cR fun _ ck=>?_))));refine oS (aD rfl (aI.aO (.own aV)) aS) ?_;refine bf rfl rfl bY aS aS fE ?_;refine oZ ck (aA ?_);refine ?_;exact cr rfl (.agg inferInstance inferInstance rfl (aI.aO (.own aV)) aS (.nil)) (rfl)
theorem Kh (a b:Sp):HL.Fn Tryz.prog 110 [.agg (E3 (a)).toArray,.agg (E3 (b)).toArray] (fun _=>True) [] (fun v _=>v = .bool (decide (a &&& b≠0))):=by
 refine aW Tryz.func110 rfl rfl rfl fun w0 hw=>?_;refine cR fun _ bI=>?_;refine cB rfl rfl rfl fun b2=>?_;refine cB rfl rfl rfl fun b3=>?_;refine oA (oZ bI (ah fun _ bJ=>?_));refine cR fun _ bK=>?_;refine oM (oZ bK (ai ?_))
 refine aL (fun (i:Nat)=>i≤3∧∀ j,j<i→wp a j &&& wp b j=0#8) (fun (i:Nat)=>[(6,.int .i64 i)]) [(2,_),(3,_)] (fun (i:Nat)=>[(b3,.cells (E3 (b)).toArray 90 (0,0)),(b2,.cells (E3 (a)).toArray 90 (0,0))]) (fun (i:Nat)=>3-i) 0 ⟨by omega,fun _ h=>absurd h (Nat.not_lt_zero _)⟩ aH aH aP ?_
 rintro i ⟨hI,hz⟩
 refine cR fun _ bU=>?_;refine oS (aF rfl rfl) ?_;refine oZ bU (ah fun _ bT=>?_);refine cx rfl (fun cH=>?_) (fun cH=>?_)
 ·refine ax (xZ bT (ah fun _ bZ=>?_));refine ai (cR fun _ cj=>?_);refine oM (oA (oZ cj (ah fun _ ck=>?_)));refine iA (by kernel_rfl) ?_;refine .op rfl (ba rfl) ?_;refine .op rfl (dP rfl rfl (by omega)) ?_;refine .op rfl (az rfl ((aI.own aV).iU (j:=i) (m4 _ (by omega)) (by omega))) ?_;refine .op rfl (ba rfl) ?_;refine .op rfl (dP rfl rfl (by omega)) ?_;refine .op rfl (az rfl ((aI.own aV).iU (j:=i) (m4 _ (by omega)) (by omega))) ?_;refine .op rfl (ab (gW rfl rfl) (Km (wp a i) (wp b i))) ?_
  by_cases hm:wp a i &&& wp b i≠0#8
  ·refine .op rfl (ab (v':=.bool true) (eY rfl rfl) (congrArg Value.bool (decide_eq_true (fun h=>hm (Ft.1 h))))) ?_;refine .nil ?_;refine xZ ck ?_;refine cT (cR fun _ cQ=>?_);refine oA (oZ cQ (aA ?_));refine aw (aj (aj (aw (aj (?_)))))
   exact xR rfl rfl (congrArg Value.bool (decide_eq_true (KF hm)).symm)
  ·refine .op rfl (ab (v':=.bool false) (eY rfl rfl) (congrArg Value.bool (decide_eq_false (fun h=>hm (fun e=>h (Ft.2 e)))))) ?_;refine .nil ?_;refine xZ ck ?_;refine cF (ax (aq (xZ bZ (ae ?_))));refine oS sD (oM (ak ?_));exact xI (i+1) ⟨by omega,Hk hz (Classical.not_not.1 hm)⟩
 ·obtain rfl:i=3:=by omega
  refine ay ?_;refine ad (ad (ag (xZ bJ (cR fun _ bw=>?_))));refine oA (oZ bw (aA ?_));refine ?_;exact xR rfl rfl (congrArg Value.bool (decide_eq_false (fun h=>h (OE hz))).symm)
theorem jI :HL.Fn Tryz.prog 98 [] (fun _=>True) [] (fun v _=>v = .agg (dm (bu)).toArray):=by
 refine aW Tryz.func98 rfl rfl rfl fun w0 hw=>?_;refine cR fun _ bI=>?_;refine aB (l:=dm bN) (by rfl) rfl fun b0=>?_;refine oZ bI (cR fun _ bJ=>?_);refine oS (dz (cs:=[_,_]) (vs:=[_,_]) rfl rfl (.cons rfl rfl rfl rfl (.cons rfl rfl rfl rfl (.nil)))) ?_;refine oS (dz (cs:=[_,_]) (vs:=[_,_]) rfl rfl (.cons rfl rfl rfl rfl (.cons rfl rfl rfl rfl (.nil)))) ?_;refine oS (dz (cs:=[_,_,_,_]) (vs:=[_,_]) rfl rfl (.cons rfl rfl rfl rfl (.cons rfl rfl rfl rfl (.nil)))) ?_;refine oS (bG (cs:=[_,_,_,_,_,_,_,_,_,_,_,_,_,_,_,_]) (vs:=[_]) rfl rfl (.cons rfl rfl rfl rfl rfl (.nil))) ?_;refine bf rfl rfl bY aS aS fE ?_;refine oZ bJ (aA ?_);refine ?_
 exact cr rfl (.agg inferInstance inferInstance rfl (aI.aO (.own aV)) aS (.nil)) (rfl)
end Go.Proofs.YtmompllplidphaaGreatDoor
namespace Go.HL
open Go
section
variable {P:Program}{ro:Option Nat}{ops:Array Oper}{Q:gR}{md:Region.Mode}{S S0:World→Prop}{late:Nat→Bool}
def rN (md:Region.Mode)(ops:Array Oper):Nat→Nat→Nat→Bool
 | 0,_,_=>false
 | n+1,j,i=>match ops[j]? with
   | some o=>o.after.toList.any fun e=>Region.binds md e&&(e.on==i||rN md ops n e.on i)
   | none=>false
def oL (md:Region.Mode)(ops:Array Oper)(li:Array Bool):Prop:=∀ j oj,ops[j]?=some oj→li.getD j false=true→∀ e∈oj.after,Region.binds md e=true→li.getD e.on false=true
def FM (md:Region.Mode)(ops:Array Oper)(li:Array Bool):Bool:=(List.range ops.size).all fun j=>!(li.getD j false)||(match ops[j]? with
 | some o=>o.after.toList.all fun e=>!(Region.binds md e)||li.getD e.on false
 | none=>true)
theorem zQ {li:Array Bool}(h:FM md ops li=true):oL md ops li:=fun j oj hj hl e he hb=>by
 have cH:j<ops.size:=(Array.getElem?_eq_some_iff.1 hj).1
 have h1:=List.all_eq_true.1 h j (List.mem_range.2 cH)
 rw[hl,hj] at h1
 simp only[Bool.not_true,Bool.false_or] at h1
 have h2:=List.all_eq_true.1 h1 e (by simpa using he)
 rw[hb] at h2
 simpa using h2
def L6 (md:Region.Mode)(ops:Array Oper)(late:Nat→Bool)(f i:Nat):Bool:=(List.range ops.size).all fun j=>!late j||rN md ops f j i
theorem BE {f i:Nat}(h:L6 md ops late f i=true):∀ j oj,ops[j]?=some oj→late j=true→∃ f,rN md ops f j i=true:=fun j oj hj Qk=>by
 have cH:j<ops.size:=(Array.getElem?_eq_some_iff.1 hj).1
 have h1:=List.all_eq_true.1 h j (List.mem_range.2 cH)
 rw[Qk] at h1
 simp only[Bool.not_true,Bool.false_or] at h1
 exact⟨f,h1⟩
theorem oL.waits {li:Array Bool}(jq:oL md ops li){i:Nat}:∀ (f j:Nat),rN md ops f j i=true→(∀ o,ops[j]?=some o→∀ e∈o.after,Region.binds md e=true→li.getD e.on false=true)→li.getD i false=true
 | 0,_,h,_=>by cases h
 | f+1,j,h,hp=>by
   unfold rN at h
   split at h
   · rename_i o ho
     obtain⟨e,he,hb⟩:=List.any_eq_true.1 h
     simp only[Bool.and_eq_true,Bool.or_eq_true,beq_iff_eq] at hb
     have hm:e∈o.after:=by simpa using he
     have h1:=hp o ho e hm hb.1
     rcases hb.2 with h2|h2
     · rw[← h2];exact h1
     · exact jq.waits f e.on h2 fun o' mJ x hx Cf=>jq e.on o' mJ h1 x hx Cf
   · cases h
theorem oL.set {li:Array Bool}(jq:oL md ops li){j:Nat}(hp:∀ o,ops[j]?=some o→∀ e∈o.after,Region.binds md e=true→li.getD e.on false=true):oL md ops (li.setIfInBounds j true):=fun k ok hk hl e he hb=>by
 by_cases h:j=k
 · subst h;exact getD_set_true (hp ok hk e he hb)
 · rw[getD_set_ne false h] at hl
   exact getD_set_true (jq k ok hk hl e he hb)
theorem D5 {i:Nat}{o:Oper}{v:Value}(hi:ops[i]?=some o)(wJ:∀ (j:Nat)(o:Oper) cs b,ops[j]?=some o→o.op≠.select cs b)(hQ:∀ c a w,Q (.panic c) (a.put o.dst v) w→Q (.panic c) a w)
   (hl:∀ j oj,ops[j]?=some oj→late j=true→∃ f,rN md ops f j i=true) :
   ∀ (n:Nat)(li:Array Bool)(a:Act)(w:World),
     (∀ j oj,ops[j]?=some oj→j≠i→li.getD j true=false→(∀ e∈oj.after,Region.binds md e=true→e.on≠i)→o.apart ops oj=true) →
     oL md ops li→i∈Region.ready md ops li→YieldsIf P ops S o v a→S w→S0 w→JU ro P md ops Q S S0 late n (li.setIfInBounds i true) (a.put o.dst v) w→JU ro P md ops Q S S0 late (n+1) li a w:=by
 intro n
 induction n with
 | zero=>
   intro li a w _ jq hr hy hS GW h
   refine⟨fun h0=>absurd (h0 ▸ hr) (by simp),fun j hj=>?_⟩
   by_cases e:j=i
   · subst e;exact ry hi hy hS ⟨fun _ h=>h,GW,h⟩
   · have:=ready_mono hj e
     rw[h.1] at this;cases this
 | succ n ih=>
   intro li a w hf jq hr hy hS GW h
   refine⟨fun h0=>absurd (h0 ▸ hr) (by simp),fun j hj=>?_⟩
   by_cases e:j=i
   · subst e;exact ry hi hy hS ⟨fun _ h=>h,GW,h⟩
   · have h1:=h.2 j (ready_mono hj e)
     obtain⟨hu,oj,C5,jE⟩:=mem_ready.1 hj
     have mq:∀ x∈oj.after,Region.binds md x=true→x.on≠i:=by
       intro x hx hb he
       have e1:=jE x hx hb
       have e0:=(mem_ready.1 hr).1
       rw[he] at e1
       rcases Nat.lt_or_ge i li.size with hs|hs
       · simp[hs] at e0 e1;rw[e0] at e1;cases e1
       · simp[Array.getElem?_eq_none hs] at e1
     have JV:late j=false:=by
       cases M6:late j
       · rfl
       · obtain⟨f,mS⟩:=hl j oj C5 M6
         have h9:=jq.waits f j mS fun o' mJ x hx hb=>by rw[C5] at mJ;cases mJ;exact jE x hx hb
         rw[getD_both (mem_ready.1 hr).1] at h9;cases h9
     have h2:=m0 C5 (hf j oj C5 e hu mq) (fun cs b=>wJ i o cs b hi) (fun cs b=>wJ j oj cs b C5) hQ hy h1
     have XD:∀ k ok,ops[k]?=some ok→k≠i→(li.setIfInBounds j true).getD k true=false→(∀ x∈ok.after,Region.binds md x=true→x.on≠i)→o.apart ops ok=true:=by
       intro k ok hk Ta XE hn
       refine hf k ok hk Ta ?_ hn
       by_cases Qs:j=k
       · subst Qs;exact hu
       · rwa [getD_set_ne true Qs] at XE
     refine wpOpIn_mono (fun a' w' h3=>⟨h3.2.1,h3.2.2.1,ih (li.setIfInBounds j true) a' w' XD (jq.set fun o' mJ x hx hb=>by rw[C5] at mJ;cases mJ;exact jE x hx hb) (ready_mono hr (Ne.symm e)) h3.1 (h3.2.1 JV hS) h3.2.2.1 ?_⟩) h2
     rw[Array.setIfInBounds_comm _ _ e]
     exact h3.2.2.2
end
section
variable {P:Program}{κ:Cx}{Q:gR}{L L':Loc}{H H':Hp}{ops:Array Oper}{rest:List Oper}{ty t t':TypeId}{d:Nat}{pos:String}{af:Array Edge}{v u:Value}{x y z:Operand}{op:Op}{late:Nat→Bool}
theorem kd (i:Nat){fuel:Nat}{listed:Array Bool}{Hs:Hp}{g:Option (Nat×Bool)}(hi:ops[i]?=some ⟨some d,op,ty,pos,af,g⟩)(dr:Region.noSelect ops=true)(nI:Region.free .any ops listed i=true)(hr:(Region.ready .any ops listed).contains i=true)
   (f:Nat)(jq:FM .any ops listed=true)(cH:L6 .any ops late f i=true)(hg:∀ a:Act,Fr a κ.n κ.ds L→Region.wanted ⟨some d,op,ty,pos,af,g⟩ (yielded ops a.tmps)=true)(hn:Nat.blt d κ.n=true)(hS:HSub H Hs)(hs:Step P κ op ty L Hs v)(h:E P κ ops Q Hs late fuel (listed.setIfInBounds i true) ((d,v)::L) H):E P κ ops Q Hs late (fuel+1) listed L H:=by
 refine⟨fun ro a w iF ok=>?_⟩
 exact D5 hi (Region.noSelect_spec dr) (fun c a w h=>h.elim) (BE cH) fuel listed a w (Region.free_spec hi nI) (zQ jq) (by simpa using hr)
   (.inl ⟨hg a ok.fr,fun w' st=>hs.out a.eval w' _ _ _ _ (fun x u hu=>ok.fr.ev hu) st⟩) (ok.st.sub hS) (ok.st.sub HSub.nil) (h.out ro _ _ iF ⟨ok.fr.put hn v,ok.st⟩)
end
end Go.HL
namespace Go.HL
open Go
theorem St.IG {P:Program}{α:Type}{E:α→List Value}{k:Nat} [he:eB E k]{T:TypeId}{v:Value}{xs ys:List α}{S R:Hp}{w0 w:World}{M:List Nat}(ho:aG E k T v xs S)(st:St w0 w M (S++R))(hl:ys.length=xs.length)(dM:xs≠[]) :
   ∃ A n c,v = .slice (some A) n c∧∃ w' S',(storeCells A (flat E ys) 0).run P w = .ok () w'∧aG E k T v ys S'∧St w0 w' M (S'++R):=by
 cases ho with
 | nil=>exact absurd rfl dM
 | yo hc hn hm hz hf=>
   rename_i b c zs fr
   have hlen:=cD E xs
   have Ev:=cD E ys
   have Ri:xs.length*k≤c*k:=Nat.mul_le_mul_right _ hn
   refine⟨_,_,_,rfl,?_⟩
   obtain⟨w',hr,hh,qL,yp,wa⟩:=eV (P:=P) (b:=b) (T:=T) (f:=fr) (flat E ys) 0 0 (flat E xs++zs) w (st.has _ _ (List.mem_append_left _ List.mem_cons_self)) (by rw[List.length_append,hlen,Ev,hl];omega) (dH E ys) (fun j hj=>yq hf (by rw[Ev,hl] at hj;omega))
   have e2:bP (flat E xs++zs) (0+0) (flat E ys)=flat E ys++zs:=by
     simp only[bP,Nat.zero_add,List.take_zero,List.nil_append]
     rw[List.drop_left' (by rw[hlen,Ev,hl])]
   refine⟨w',[(b,.cells (bP (flat E xs++zs) (0+0) (flat E ys)).toArray T fr)],hr,?_,St.put (R:=R) st hh qL yp wa⟩
   rw[e2]
   have:=aG.yo (E:=E) (k:=k) (T:=T) (b:=b) (c:=c) (xs:=ys) (zs:=zs) (fr:=fr) (by rw[List.length_append,Ev,hl];rw[List.length_append,hlen] at hc;exact hc) (by rw[hl];exact hn) (by rw[hl];exact hm) hz hf
   rw[hl] at this
   exact this
section
variable {P:Program}{κ:Cx}{Q:gR}{L L':Loc}{H H':Hp}{ops:Array Oper}{rest:List Oper}{ty t t':TypeId}{d:Nat}{pos:String}{af:Array Edge}{v u:Value}{x y z:Operand}{α:Type}{E:α→List Value}{k:Nat}
theorem Src.Rj [he:eB E k]{ys:List α}{w:World}(h:cq E κ H u ys)(st:St κ.w0 w κ.M H):Src P w k u ys.length (flat E ys):=Src.IH (h.out w st)
theorem Rk [he:eB E k]{T fL:Nat}{xs ys:List α}{S R:Hp} [tu:TU P t (.slice T)] [ti:TI P T k fL](ho:aG E k T v xs S)(hs:cq E κ H u ys)(hl:ys.length=xs.length)(hx:ev L x=some v)(hy:ev L y=some u)(gS:aJ H S R)
   (hn:Nat.blt d κ.n=true)(h:∀ S',aG E k T v ys S'→O P κ ops Q rest ((d,.int .i64 (ys.length:Nat))::L) (S'++R)):O P κ ops Q (⟨some d,.call ⟨.builtin .copy,#[x,y],#[t,t']⟩,ty,pos,af,none⟩::rest) L H:=by
 refine⟨fun ro a w iF ok=>gg rfl ?_⟩
 have e1:=ok.fr.ev hx
 have e2:=ok.fr.ev hy
 have Np:=Src.Rj (P:=P) hs ok.st
 by_cases dM:xs = []
 · subst dM
   have hy0:ys = []:=List.eq_nil_of_length_eq_zero hl
   subst hy0
   obtain⟨a0,c0,rfl,_⟩:=ho.sl.out
   have hlen:=Np.len w
   have jq:=Np.cells w rfl
   simp only[List.length_nil,flat,List.flatMap_nil] at hlen jq
   have:(execOp a.eval ⟨some d,.call ⟨.builtin .copy,#[x,y],#[t,t']⟩,ty,pos,af,none⟩).run P w = .ok (.value (.int .i64 0)) w:=by
     cases a0 <;> simp[execOp,resolve,invoke,builtin,Builtin.copy_,e1,e2,cS,bV,hlen,jq,storeCells,goInt]
   exact qM this ((h S ho).out ro _ _ iF.tail ⟨ok.fr.put hn _,ok.st.perm gS.perm⟩)
 · obtain⟨A,n,c,hv,w',S',hr,mJ,H5⟩:=St.IG (P:=P) ho (ok.st.perm gS.perm) hl dM
   obtain⟨a0,c0,Rl,_⟩:=ho.sl.out
   subst hv
   simp only[Value.slice.injEq] at Rl
   obtain⟨rfl,rfl,rfl⟩:=Rl
   have hlen:=Np.len w
   have jq:=Np.cells w rfl
   have acK:Nat.min ys.length xs.length=ys.length:=by rw[hl];exact Nat.min_self _
   have:(execOp a.eval ⟨some d,.call ⟨.builtin .copy,#[x,y],#[t,t']⟩,ty,pos,af,none⟩).run P w = .ok (.value (.int .i64 (ys.length:Nat))) w':=by
     simp[execOp,resolve,invoke,builtin,Builtin.copy_,e1,e2,cS,bV,hlen,acK,jq,hr,goInt]
   exact qM this ((h S' mJ).out ro _ _ iF.tail ⟨ok.fr.put hn _,H5⟩)
theorem Fn.sub {f:FuncId}{args:List Value}{pre:World→Prop}{S:Hp}{post Ae:Value→Hp→Prop}(h:Fn P f args pre S post)(hq:∀ v S',post v S'→∃ S2,HSub S' S2∧Ae v S2):Fn P f args pre S Ae:=
 ⟨h.enters,fun w hw hS=>(h.calls w hw hS).mono fun e w' iG=>by
   obtain⟨v,S',he,hv,dV⟩:=iG.out
   obtain⟨S2,h1,h2⟩:=hq _ _ hv
   exact⟨v,S2,he,h2,dV.sub h1⟩⟩
end
end Go.HL
