/- Part of the proofs over this seat: see the text that holds the theorem. Conditions: each theorem bears its own. -/
import Derived.Test.YtmompllplidphaaGreatDoorHTZ
import Derived.Test.YtmompllplidphaaGreatDoorMT26Z
import Derived.Test.YtmompllplidphaaGreatDoorGB6Z
import Derived.Test.YtmompllplidphaaGreatDoorHlB
import Derived.Test.YtmompllplidphaaGreatDoorGSW14Z
import Derived.Test.YtmompllplidphaaGreatDoorMC9Z
namespace Go.Proofs.YtmompllplidphaaGreatDoor
open Go Go.HL Go.Proofs Go.Af Go.HL.Kl Go.HL.Kl.Mc Go.HL.cm
theorem Ej (b:Nat)(cs:List Value)(sls:List (Sl Int))(s:Sl Int)(oa:Option Addr)(oc:Nat)(So:Hp)(hb:cs[1]?=some (.slice oa sls.length oc))(hO:aG cX 1 36 (.slice oa sls.length oc) sls So):HL.Fn Tryz.prog 115 [.pointer (some ⟨b,0,none⟩),.slice s.a s.xs.length s.c] (fun _=>True) ((b,.cells cs.toArray 63 (0,0))::So) (fun _ S'=>∃ (sk:List Value)(FD:Option Addr)(FE:Nat)(Bk:Hp),S'=(b,.cells sk.toArray 63 (0,0))::Bk∧sk[1]?=some (.slice FD (ox sls s).length FE)∧(∀ i,i≠1→sk[i]?=cs[i]?)∧aG cX 1 36 (.slice FD (ox sls s).length FE) (ox sls s) Bk):=by
 refine aW Tryz.func115 rfl rfl rfl fun w0 hw=>?_
 have jq:1<cs.length:=(List.getElem?_eq_some_iff.1 hb).1
 refine cR fun _ bI=>?_;refine oM ?_;refine oS sN ?_;refine oS sF ?_;refine oS (az rfl (.own aV hb)) ?_;refine oS sC ?_
 by_cases Wl:sls.length<400
 ·refine oS (ab (v':=.bool true) (aF rfl rfl) (congrArg Value.bool (decide_eq_true (by omega)))) ?_;refine oZ bI ?_;refine cT (ae (oM (oM ?_)));refine oS sN ?_;refine oS sF ?_;refine oS (az rfl (.own aV hb)) ?_;refine oM ?_;refine ct (E:=cX) (xs:=[s]) (vs:=[_]) rfl rfl rfl rfl rfl (by decide) (by decide) fun s8 V3 sR=>?_;refine bX hO (sR.aU aM) rfl rfl rfl rfl (by simp only[List.length_singleton];omega) (by simp only[List.length_singleton];omega) rfl bh fun Um Un zB sS=>?_;refine oS sN ?_;refine oS sF ?_;refine bg rfl rfl rfl bY kD rfl ?_;refine ak ?_;refine cM (Sub.refl _) (H':=(b,.cells (cs.set 1 (.slice Um (sls++[s]).length Un)).toArray 63 (0,0))::zB) aP ?_
  exact fB rfl (.nil) ((by rw[AT Wl];exact⟨_,_,_,_,rfl,List.getElem?_set_self jq,fun i hi=>List.getElem?_set_ne (Ne.symm hi),sS⟩))
 ·refine oS (ab (v':=.bool false) (aF rfl rfl) (congrArg Value.bool (decide_eq_false (by omega)))) ?_;refine oZ bI ?_;refine cF (ax ?_);exact fB rfl (.nil) ((by rw[AU Wl];exact⟨_,_,_,_,rfl,hb,fun i _=>rfl,hO⟩))
theorem BW (b:Nat)(cs:List Value)(il:List (Sl Int))(o1:Option Addr)(c1:Nat)(S1:Hp)(xl:List (Sl (Sl Int)))(yz:Option Addr)(og:Nat)(oT:Hp)(s:Sl (Sl Int))(Sr:Hp)(h1:cs[1]?=some (.slice o1 il.length c1))(H8:cs[14]?=some (.slice yz xl.length og))(w1:aG cX 1 36 (.slice o1 il.length c1) il S1)(WE:aG cX 1 27 (.slice yz xl.length og) xl oT)(WD:il.length≤400)(P7:xl.length<400)(hr:lG cX (.slice s.a s.xs.length s.c) s.xs Sr)(dr:eA (.slice s.a s.xs.length s.c) s.xs.length):HL.Fn Tryz.prog 48 [.pointer (some ⟨b,0,none⟩),.slice s.a s.xs.length s.c] (fun _=>True) ((b,.cells cs.toArray 63 (0,0))::(S1++(oT++Sr))) (fun _ S'=>∃ (sk:List Value)(nS:List (Sl Int))(o1':Option Addr)(c1':Nat)(S1':Hp)(aaZ:Option Addr)(aa0:Nat)(aa6:Hp)(i:Nat),S'=(b,.cells sk.toArray 63 (0,0))::(S1'++(aa6++Sr))∧sk[1]?=some (.slice o1' nS.length c1')∧sk[14]?=some (.slice aaZ (xl++[s]).length aa0)∧(∀ i,i≠1→i≠14→sk[i]?=cs[i]?)∧aG cX 1 36 (.slice o1' nS.length c1') nS S1'∧aG cX 1 27 (.slice aaZ (xl++[s]).length aa0) (xl++[s]) aa6∧eC il s.xs nS i):=by
 refine aW Tryz.func48 rfl rfl rfl fun w0 hw=>?_
 have jq:14<cs.length:=(List.getElem?_eq_some_iff.1 H8).1
 have hle:=dr.le
 refine ah fun _ bI=>?_;refine cR fun _ bJ=>?_;refine oM ?_;refine oS sN ?_;refine oS sF ?_;refine oS (az rfl (.own aV H8)) ?_;refine oS sC ?_
 by_cases Wl:xl.length<400
 ·refine oS (ab (v':=.bool true) (aF rfl rfl) (congrArg Value.bool (decide_eq_true (by omega)))) ?_;refine oZ bJ ?_;refine cT (ae (oM (oM ?_)));refine oS sN ?_;refine oS sF ?_;refine oS (az rfl (.own aV H8)) ?_;refine oM ?_;refine ct (E:=cX) (xs:=[s]) (vs:=[_]) rfl rfl rfl rfl rfl (by decide) (by decide) fun b17 zB sS=>?_;refine bX WE (sS.aU aM) rfl rfl rfl rfl (by simp only[List.length_singleton];omega) (by simp only[List.length_singleton];omega) rfl bh fun a18 c18 Pw wU=>?_;refine oS sN ?_;refine oS sF ?_;refine bg rfl rfl rfl bY kD rfl ?_;refine oZ bI ?_
  refine cR fun _ bK=>?_;refine oA (oZ bK (ai ?_));refine jY (fun (i:Nat)(Iw:List Value)(Iy:List (Sl Int))(MN:Option Addr)(Ij:Nat)(FW:Hp)=>i≤s.xs.length∧Iw[1]?=some (.slice MN Iy.length Ij)∧(∀ j,j≠1→Iw[j]?=(cs.set 14 (.slice a18 (xl++[s]).length c18))[j]?)∧aG cX 1 36 (.slice MN Iy.length Ij) Iy FW∧eC il s.xs Iy i) (fun (i:Nat)(Iw:List Value)(Iy:List (Sl Int))(MN:Option Addr)(Ij:Nat)(FW:Hp)=>[(4,.int .i64 i)]) [(0,_),(1,_)] (fun (i:Nat)(Iw:List Value)(Iy:List (Sl Int))(MN:Option Addr)(Ij:Nat)(FW:Hp)=>(b,.cells Iw.toArray 63 (0,0))::(FW++(Pw++Sr))) (fun (i:Nat)(Iw:List Value)(Iy:List (Sl Int))(MN:Option Addr)(Ij:Nat)(FW:Hp)=>s.xs.length-i) 0 _ il o1 c1 S1 ⟨Nat.zero_le _,by rw[List.getElem?_set_ne (by decide)];exact h1,fun j _=>rfl,w1,eC.zero WD⟩ aH aH aP ?_
  rintro i Iw Iy MN Ij FW ⟨hi,O3,qJ,GZ,hR⟩
  refine ah fun _ bU=>?_;refine cR fun _ bT=>?_;refine oM (oM ?_);refine oS sC ?_
  by_cases B4:i<s.xs.length
  ·obtain⟨q,ET⟩:∃ q,s.xs[i]?=some q:=gE
   refine oS (ab (v':=.bool true) (aF rfl rfl) (congrArg Value.bool (decide_eq_true (by omega)))) ?_;refine oM ?_;refine oY (oM ?_);refine oY ?_
   by_cases aqC:i<400
   ·refine oS (ab (v':=.bool true) (aF rfl rfl) (congrArg Value.bool (decide_eq_true (by omega)))) ?_;refine oS sT (oZ bT ?_);refine gp bU (ah fun _ bZ=>?_);refine ai (ae (oM (oM (oM ?_))));refine oS (au rfl rfl dr (by omega)) ?_;refine oS (az rfl ((hr.aU aM).ld (u:=.slice q.a q.xs.length q.c) i 0 ET rfl (by decide) (by omega))) ?_;refine aX (Ej b Iw Iy q MN Ij FW O3 GZ) rfl rfl rfl ((aJ.bR bh bh)) (fun _ _=>trivial) (fun v36 S36 ⟨ahw,ahx,ahy,ahz,Cn,ahA,ahB,ahC⟩=>?_);subst Cn
    refine ak (aq (xZ bZ (ae (oM ?_))));refine oS sD (oA (ak ?_));exact xI (i+1,ahw,ox Iy q,ahx,ahy,ahz) ⟨by omega,ahA,fun j hj=>(ahB j hj).trans (qJ j hj),ahC,hR.step ET⟩
   ·refine oS (ab (v':=.bool false) (aF rfl rfl) (congrArg Value.bool (decide_eq_false (by omega)))) ?_;refine oS sT (oZ bT ?_);refine cF ?_;refine ay ?_;refine ad (ad (ag ?_));refine cM (Sub.refl _) (H':=(b,.cells Iw.toArray 63 (0,0))::(FW++(Pw++Sr))) aP ?_;exact fB rfl (.nil) (⟨Iw,Iy,MN,Ij,FW,a18,c18,Pw,i,rfl,O3,by rw[qJ 14 (by decide),List.getElem?_set_self jq],fun j h1 h2=>by rw[qJ j h1,List.getElem?_set_ne (Ne.symm h2)],GZ,wU,hR⟩)
  ·refine oS (ab (v':=.bool false) (aF rfl rfl) (congrArg Value.bool (decide_eq_false (by omega)))) ?_;refine oM ?_;refine oN ?_;refine oN ?_;refine oS sP (oZ bT ?_);refine cF ?_;refine ay ?_;refine ad (ad (ag ?_));refine cM (Sub.refl _) (H':=(b,.cells Iw.toArray 63 (0,0))::(FW++(Pw++Sr))) aP ?_;exact fB rfl (.nil) (⟨Iw,Iy,MN,Ij,FW,a18,c18,Pw,i,rfl,O3,by rw[qJ 14 (by decide),List.getElem?_set_self jq],fun j h1 h2=>by rw[qJ j h1,List.getElem?_set_ne (Ne.symm h2)],GZ,wU,hR⟩)
 ·exact absurd P7 Wl
theorem Cq (b:Nat)(cs:List Value)(il:List (Sl Int))(o1:Option Addr)(c1:Nat)(S1:Hp)(bl:List (Sl Bool))(o2:Option Addr)(c2:Nat)(S2:Hp)(cl:List (Sl Kl.Cl))(o7:Option Addr)(c7:Nat)(S7:Hp)(nl:List (Sl Nd))(o8:Option Addr)(c8:Nat)(S8:Hp)(xl:List (Sl (Sl Int)))(yz:Option Addr)(og:Nat)(oT:Hp)(hQ:Rq b cs il o1 c1 S1 bl o2 c2 S2 cl o7 c7 S7 nl o8 c8 S8 xl yz og oT)(aa:Option Addr)(ac:Nat)(atoms:List Kl.Cl)(na:Option Addr)(nc:Nat)(rows:List (Sl Int))(ea:Option Addr)(ec:Nat)(ends:List Bool)(Sr:Hp)(hr:lG cX (.slice na rows.length nc) rows Sr)(dr:eA (.slice na rows.length nc) rows.length)(WD:il.length≤400)(hb4:bl.length<400)(hc4:cl.length<400)(P7:xl.length<400):HL.Fn Tryz.prog 14 [.pointer (some ⟨b,0,none⟩),.agg [.slice aa atoms.length ac,.slice na rows.length nc,.slice ea ends.length ec].toArray] (fun _=>True) ((b,.cells cs.toArray 63 (0,0))::(S1++(S2++(S7++(S8++(oT++Sr)))))) (fun _ S'=>∃ Sb nS i,S'=Sb++Sr∧eC il rows nS i∧wq b nS (bl++[⟨ea,ec,ends⟩]) (cl++[⟨aa,ac,atoms⟩]) nl (xl++[⟨na,nc,rows⟩]) Sb):=by
 refine aW Tryz.func14 rfl rfl rfl fun w0 hw=>?_;refine cR fun _ bI=>?_;refine cB rfl rfl rfl fun b3=>?_;refine oZ bI (cR fun _ bJ=>?_);refine oM ?_;refine oS sF ?_;refine oS sL ?_;refine aX (wP b cs cl ⟨aa,ac,atoms⟩ o7 c7 S7 hQ.h7 hc4 hQ.w7) rfl rfl rfl ((aJ.bR bh bh)) (fun _ _=>trivial) (fun v7 S7_ ⟨cs7,oa7,oc7,So7,Ra,hb7,MO,hO7⟩=>?_);subst Ra
 refine oZ bJ (cR fun _ bK=>?_);refine oM ?_;refine oS sF ?_;refine oS sL ?_;refine aX (BW b cs7 il o1 c1 S1 xl yz og oT ⟨na,nc,rows⟩ Sr (by rw[MO 1 (by decide)];exact hQ.h1) (by rw[MO 14 (by decide)];exact hQ.H8) hQ.w1 hQ.WE WD P7 hr dr) rfl rfl rfl ((aJ.bR bh (aJ.cy bh (aJ.cy bh bh)))) (fun _ _=>trivial) (fun v11 S11 ⟨ahD,nS,MN,Ij,FW,ahE,ahF,aa7,ir,Ru,O3,ahG,FX,GZ,ahH,hR⟩=>?_);subst Ru
 refine oZ bK (ae (oM ?_));refine oS sF ?_;refine oS sL ?_;refine aX (Bl b ahD bl ⟨ea,ec,ends⟩ o2 c2 S2 (by rw[FX 2 (by decide) (by decide),MO 2 (by decide)];exact hQ.h2) hb4 hQ.w2) rfl rfl rfl ((aJ.bR bh bh)) (fun _ _=>trivial) (fun v15 Nk ⟨aa8,oa2,oc2,So2,yj,Ih,BX,JX⟩=>?_);subst yj
 refine ak ?_;refine cM (Sub.refl _) (H':=((b,.cells aa8.toArray 63 (0,0))::(FW++(So2++(So7++(S8++aa7)))))++Sr) (by simp only[List.cons_append,List.append_assoc];exact aP) ?_;exact fB rfl (.nil) (⟨_,nS,ir,rfl,hR,aa8,MN,Ij,FW,oa2,oc2,So2,oa7,oc7,So7,o8,c8,S8,ahE,ahF,aa7,rfl,by rw[BX 1 (by decide)];exact O3,Ih,by rw[BX 7 (by decide),FX 7 (by decide) (by decide)];exact hb7,by rw[BX 8 (by decide),FX 8 (by decide) (by decide),MO 8 (by decide)];exact hQ.h8,by rw[BX 14 (by decide)];exact ahG,GZ,JX,hO7,hQ.w8,ahH,fun j h h1 h2 h7 h8 H8=>by rw[BX j h2,FX j h1 H8,MO j h7];exact hQ.hz j h h1 h2 h7 h8 H8⟩)
end Go.Proofs.YtmompllplidphaaGreatDoor
namespace Go.HL
open Go
section
variable {P:Program}{κ:Cx}{L:HL.Loc}{H:Hp}{ty:TypeId}
theorem qq {t:TypeId}{x y:Operand}{e s fL n c:Nat}{a:Option Addr}{kl:IntKind}{l:Int} [TU P t (.slice e)] [TI P e s fL](hx:ev L x=some (.slice a n c))(hy:ev L y=some (.int kl l))(hb:0≤l∧l≤n∧n≤c) :
   Step P κ (.slice t x (some y) none none) ty L H (.slice (eu a c l.toNat s) (n-l.toNat) (c-l.toNat)):=
 ⟨fun ρ w d pos af g hρ _=>by
   have b1:0≤l∧l≤(n:Int):=by omega
   have b3:0≤l∧l≤max (n:Int) 0:=by omega
   have b4:(n:Int)≤c:=by omega
   have e2:(Instr.slice t (.slice a n c) (some (.int kl l)) none none).run P w = .ok (.slice (eu a c l.toNat s) (n-l.toNat) (c-l.toNat)) w:=by
     simp[Instr.slice,cS,Instr.sliceBounds,Instr.sliceBound,asIntOf,b1,b3,b4,bV,eu]
   simp[execOp,hρ _ _ hx,hρ _ _ hy,Instr.sliceAt,cS,e2]⟩
end
theorem lG.tl {α:Type}{E:α→List Value}{k:Nat} [he:eB E k]{a:Option Addr}{c:Nat}{x:α}{l:List α}{S:Hp}(h:lG E (.slice a (x::l).length c) (x::l) S):lG E (.slice (eu a c 1 k) l.length (c-1)) l S:=
 ⟨fun w hw=>by
   have h2:=(h.out w hw).mid 1 (x::l).length (by simp) (Nat.le_refl _)
   have e:((x::l).drop 1).take ((x::l).length-1)=l:=by simp
   rw[e] at h2
   exact h2⟩
theorem eA.tl {a:Option Addr}{n c k:Nat}(h:eA (.slice a (n+1) c) (n+1)):eA (.slice (eu a c 1 k) n (c-1)) n:=by
 obtain⟨⟨a',c',hv,hn,h0,wc⟩,hle⟩:=h
 simp only[Value.slice.injEq] at hv
 obtain⟨rfl,_,rfl⟩:=hv
 refine⟨⟨_,_,rfl,by omega,fun hm=>?_,fun A hA hz=>?_⟩,by omega⟩
 · unfold eu at hm
   split at hm
   · have:=h0 hm;omega
   · cases a with
     | none=>have:=h0 rfl;omega
     | some B=>cases hm
 · unfold eu at hA
   rw[if_neg (by omega)] at hA
   cases a with
   | none=>cases hA
   | some B=>
     have:=wc B rfl (by omega)
     simp only[Option.map_some,Option.some.injEq] at hA
     subst hA
     unfold Addr.add
     split
     · exact this
     · rfl
theorem cq.ldp {α:Type}{E:α→List Value}{k:Nat} [he:eB E k]{κ:Cx}{H:Hp}{v:Value}{xs:List α}{e:α}{cs:List Value}(h:cq E κ H v xs)(i f:Nat)(hx:xs[i]?=some e)(hs:∀ (j:Nat)(u:Value),cs[j]?=some u→(E e)[f+j]?=some u){o:Nat}(ho:o=nJ v+(i*k+f)):CC κ H ⟨kN v,o,none⟩ cs:=
 ⟨fun w st j u hu=>by
   subst ho
   rw[Addr.add_lit]
   have h1:=(h.aO hx).out w st (f+j) u (hs j u hu)
   rw[yE] at h1
   have e1:nJ v+(i*k+f)+j=nJ v+(i*k+(f+j)):=by omega
   rw[e1];exact h1⟩
end Go.HL
namespace Go.HL.cm
open Go Go.HL Go.HL.Kl Go.HL.Kl.Mc
def nx (next:List (List Nat))(q k:Nat):Nat:=((next[q]?.getD [])[k]?).getD 0
def CU (next:List (List Nat)):Nat→List Nat→Nat
 | q,[]=>q
 | q,k::t=>CU next (nx next q k) t
def jB (next:List (List Nat))(ends:List Bool)(q:Nat)(t:List Nat):Bool:=ends[CU next q t]?.getD false
structure nW (next:List (List Nat))(ends:List Bool)(K:Nat):Prop where
 len:ends.length=next.length
 pos:0<next.length
 K0:0<K
 rows:∀ r∈next,r.length=K
 yI:∀ r∈next,∀ v∈r,v<next.length
theorem nW.get {next:List (List Nat)}{ends:List Bool}{K:Nat}(h:nW next ends K){q k:Nat}(hq:q<next.length)(hk:k<K):∃ row,next[q]?=some row∧row[k]?=some (nx next q k)∧nx next q k<next.length:=by
 have hr:next[q]?=some next[q]:=List.getElem?_eq_getElem hq
 have hl:=h.rows _ (List.getElem_mem hq)
 have RW:next[q][k]?=some (next[q][k]):=List.getElem?_eq_getElem (by omega)
 refine⟨_,hr,?_,?_⟩
 · unfold nx;rw[hr,Option.getD_some,RW];rfl
 · unfold nx;rw[hr,Option.getD_some,RW,Option.getD_some]
   exact h.yI _ (List.getElem_mem hq) _ (List.getElem_mem _)
theorem uL {next:List (List Nat)}{ends:List Bool}{K:Nat}(h:nW next ends K){part:List Nat}(hp:part.length=next.length):∀ (k:Nat),k≤K→∀ {i j:Nat},i<next.length→j<next.length →
   ((bc next part k).1[i]?=(bc next part k).1[j]?↔pt part i=pt part j∧∀ k',k'<k→pt part (nx next i k')=pt part (nx next j k'))
 | 0,_,i,j,hi,hj=>by
   show part[i]?=part[j]?↔_
   rw[iq (pm:=part) (m:=i) (by omega),iq (pm:=part) (m:=j) (by omega)]
   constructor
   · intro e;exact⟨Option.some.inj e,fun k hk=>by omega⟩
   · rintro⟨e,_⟩;rw[e]
 | k+1,hk,i,j,hi,hj=>by
   have ih:=uL h hp k (by omega) hi hj
   have hl:=eR hp k
   have hc:(mI next part k).length=next.length:=by simp[mI]
   obtain⟨_,_,h3,h4⟩:=pU ((bc next part k).1.zip (mI next part k)) [] List.nodup_nil
   have z1:=y8 (l:=(bc next part k).1) (c:=mI next part k) (i:=i) (by omega) (by omega)
   have z2:=y8 (l:=(bc next part k).1) (c:=mI next part k) (i:=j) (by omega) (by omega)
   have m1:=(h3 _).2 (.inr (List.mem_of_getElem? z1))
   have m2:=(h3 _).2 (.inr (List.mem_of_getElem? z2))
   have cg:∀ i,i<next.length→∀ (hi:i<(mI next part k).length),(mI next part k)[i]=pt part (nx next i k):=by
     intro i hi z0
     obtain⟨row,hr,hv,hb⟩:=h.get hi (show k<K by omega)
     have:=Eo (part:=part) hr hv (iq (pm:=part) (by omega))
     rw[List.getElem?_eq_getElem z0] at this
     exact Option.some.inj this
   show (fC _ []).1[i]?=(fC _ []).1[j]?↔_
   rw[h4,List.getElem?_map,List.getElem?_map,z1,z2]
   simp only[Option.map_some,Option.some.injEq]
   constructor
   · intro e
     have e':=ES m1 m2 e
     have e1:=(Prod.mk.inj e').1
     have e2:=(Prod.mk.inj e').2
     rw[cg i hi,cg j hj] at e2
     obtain⟨p1,p2⟩:=ih.1 (by rw[List.getElem?_eq_getElem (by omega),List.getElem?_eq_getElem (by omega),e1])
     refine⟨p1,fun k' RW=>?_⟩
     rcases Nat.lt_or_ge k' k with h5|h5
     · exact p2 k' h5
     · obtain rfl:k'=k:=by omega
       exact e2
   · rintro⟨p1,p2⟩
     have e1:=ih.2 ⟨p1,fun k' RW=>p2 k' (by omega)⟩
     rw[List.getElem?_eq_getElem (by omega),List.getElem?_eq_getElem (by omega)] at e1
     have e1:=Option.some.inj e1
     have e2:=p2 k (by omega)
     rw[← cg i hi (by omega),← cg j hj (by omega)] at e2
     rw[e1,e2]
structure Sep (next:List (List Nat))(ends:List Bool)(K:Nat)(part:List Nat):Prop where
 len:part.length=next.length
 res:∀ i j,i<next.length→j<next.length→pt part i=pt part j→ends[i]?=ends[j]?
 sep:∀ i j,i<next.length→j<next.length→pt part i≠pt part j→∃ t,(∀ k∈t,k<K)∧jB next ends i t≠jB next ends j t
theorem Sep.zero {next:List (List Nat)}{ends:List Bool}{K:Nat}(h:nW next ends K):Sep next ends K (fA ends):=by
 have hl:(fA ends).length=next.length:=by simp[fA,h.len]
 have hg:∀ i,i<next.length→∃ b,ends[i]?=some b∧pt (fA ends) i=if b then 1 else 0:=by
   intro i hi
   refine⟨ends[i]'(by have:=h.len;omega),List.getElem?_eq_getElem _,?_⟩
   unfold pt fA
   rw[List.getElem?_map,List.getElem?_eq_getElem (by have:=h.len;omega)];rfl
 refine⟨hl,fun i j hi hj he=>?_,fun i j hi hj he=>⟨[],by simp,?_⟩⟩
 · obtain⟨a,ha,e1⟩:=hg i hi
   obtain⟨b,hb,e2⟩:=hg j hj
   rw[e1,e2] at he
   rw[ha,hb]
   cases a <;> cases b <;> simp_all
 · obtain⟨a,ha,e1⟩:=hg i hi
   obtain⟨b,hb,e2⟩:=hg j hj
   rw[e1,e2] at he
   show ends[i]?.getD false≠ends[j]?.getD false
   rw[ha,hb]
   cases a <;> cases b <;> simp_all
theorem Sep.round {next:List (List Nat)}{ends:List Bool}{K:Nat}(h:nW next ends K){part:List Nat}(hs:Sep next ends K part):Sep next ends K (bc next part K).1:=by
 have hl:=eR hs.len K
 have hq:∀ i j,i<next.length→j<next.length→(pt (bc next part K).1 i=pt (bc next part K).1 j↔pt part i=pt part j∧∀ k',k'<K→pt part (nx next i k')=pt part (nx next j k')):=by
   intro i j hi hj
   rw[← uL h hs.len K (Nat.le_refl _) hi hj,iq (by omega),iq (by omega)]
   exact⟨fun e=>by rw[e],fun e=>Option.some.inj e⟩
 refine⟨hl,fun i j hi hj he=>hs.res i j hi hj ((hq i j hi hj).1 he).1,fun i j hi hj dM=>?_⟩
 by_cases e:pt part i=pt part j
 · obtain⟨k,hk,hd⟩:∃ k,k<K∧pt part (nx next i k)≠pt part (nx next j k):=by
     refine Classical.byContradiction fun hc=>dM ((hq i j hi hj).2 ⟨e,fun k hk=>?_⟩)
     exact Classical.byContradiction fun hd=>hc ⟨k,hk,hd⟩
   obtain⟨t,ht,ha⟩:=hs.sep _ _ (h.get hi hk).choose_spec.2.2 (h.get hj hk).choose_spec.2.2 hd
   exact⟨k::t,fun x hx=>by rcases List.mem_cons.1 hx with rfl|hx;(· exact hk);(· exact ht x hx),ha⟩
 · exact hs.sep i j hi hj e
def Stb (next:List (List Nat))(K:Nat)(part:List Nat):Prop:=∀ i j,i<next.length→j<next.length→pt part i=pt part j→∀ k,k<K→pt part (nx next i k)=pt part (nx next j k)
theorem SI {next:List (List Nat)}{ends:List Bool}{K:Nat}(h:nW next ends K){part:List Nat}{many:Nat}(hR:Nl next.length part many)(hb:∀ v∈part,v<many)(he:(bc next part K).2.length=many):Stb next K part:=by
 intro i j hi hj nn k hk
 refine Classical.byContradiction fun dM=>?_
 obtain⟨K',rfl⟩:∃ k',K=k'+1:=⟨K-1,by have:=h.K0;omega⟩
 have hl:=eR hR.len (K'+1)
 have qH:=hR.len
 have hq:∀ i j,i<next.length→j<next.length→(pt (bc next part (K'+1)).1 i=pt (bc next part (K'+1)).1 j↔pt part i=pt part j∧∀ k',k'<K'+1→pt part (nx next i k')=pt part (nx next j k')):=by
   intro i j hi hj
   rw[← uL h hR.len (K'+1) (Nat.le_refl _) hi hj,iq (by omega),iq (by omega)]
   exact⟨fun e=>by rw[e],fun e=>Option.some.inj e⟩
 have hv:∀ i,i<next.length→pt (bc next part (K'+1)).1 i<many:=by
   intro i hi
   rw[← he]
   exact nt K' (List.mem_of_getElem? (iq (by omega)))
 have AE:∀ c,c<many→part[idx part c]?=some c∧idx part c<next.length:=fun c hc=>⟨nu (hR.cov c hc),by rw[← hR.len];exact uM (hR.cov c hc)⟩
 have Xp:∀ c,c<many→pt part (idx part c)=c:=fun c hc=>by unfold pt;rw[(AE c hc).1];rfl
 have hc0:pt part i<many:=hb _ (List.mem_of_getElem? (iq (by omega)))
 have yg:(((List.range many).filter fun c=>decide (c≠pt part i)).map fun c=>pt (bc next part (K'+1)).1 (idx part c)).Nodup:=by
   rw[List.nodup_iff_pairwise_ne,List.pairwise_map]
   have hr:((List.range many).filter fun c=>decide (c≠pt part i)).Pairwise (·≠·):=(List.nodup_iff_pairwise_ne.1 (List.nodup_range (n:=many))).filter _
   refine hr.imp_of_mem ?_
   intro a b ha H6 Ig GO
   have ha:=(List.mem_filter.1 ha).1
   have H6:=(List.mem_filter.1 H6).1
   have ha':a<many:=by simpa using ha
   have Xq:b<many:=by simpa using H6
   have:=((hq _ _ (AE a ha').2 (AE b Xq).2).1 GO).1
   rw[Xp a ha',Xp b Xq] at this
   exact Ig this
 have hlen:many≤((List.range many).filter fun c=>decide (c≠pt part i)).length+1:=by
   have GP:List.range many ⊆ pt part i::(List.range many).filter fun c=>decide (c≠pt part i):=by
     intro c hc
     by_cases e:c=pt part i
     · rw[e];exact List.mem_cons_self
     · exact List.mem_cons_of_mem _ (List.mem_filter.2 ⟨hc,by simp[e]⟩)
   have:=(List.nodup_range (n:=many)).length_le_of_subset GP
   simpa using this
 have Jz:∀ q,q<next.length→pt part q=pt part i→∀ x∈((List.range many).filter fun c=>decide (c≠pt part i)).map fun c=>pt (bc next part (K'+1)).1 (idx part c),x≠pt (bc next part (K'+1)).1 q:=by
   intro q SJ ET x hx hxe
   obtain⟨c,hc,rfl⟩:=List.mem_map.1 hx
   have hc1:=(List.mem_filter.1 hc).1
   have hc2:c≠pt part i:=by simpa using (List.mem_filter.1 hc).2
   have hc3:c<many:=by simpa using hc1
   have:=((hq _ _ (AE c hc3).2 SJ).1 hxe).1
   rw[Xp c hc3,ET] at this
   exact hc2 this
 have adG:pt (bc next part (K'+1)).1 i≠pt (bc next part (K'+1)).1 j:=fun e=>dM (((hq i j hi hj).1 e).2 k hk)
 have pO:((((List.range many).filter fun c=>decide (c≠pt part i)).map fun c=>pt (bc next part (K'+1)).1 (idx part c))++[pt (bc next part (K'+1)).1 i,pt (bc next part (K'+1)).1 j]).Nodup:=by
   rw[List.nodup_append]
   refine⟨yg,by simp[adG],fun x hx y hy=>?_⟩
   simp only[List.mem_cons,List.not_mem_nil,or_false] at hy
   rcases hy with rfl|rfl
   · exact Jz i hi rfl x hx
   · exact Jz j hj nn.symm x hx
 have:=cm.fJ pO (n:=many) (fun x hx=>by
   rcases List.mem_append.1 hx with hx|hx
   · obtain⟨c,hc,rfl⟩:=List.mem_map.1 hx
     have hc3:c<many:=by simpa using (List.mem_filter.1 hc).1
     exact hv _ (AE c hc3).2
   · simp only[List.mem_cons,List.not_mem_nil,or_false] at hx
     rcases hx with rfl|rfl
     · exact hv i hi
     · exact hv j hj)
 simp only[List.length_append,List.length_map,List.length_cons,List.length_nil] at this
 omega
theorem rY {next:List (List Nat)}{ends:List Bool}{K:Nat}(h:nW next ends K):∀ (f many:Nat)(part:List Nat),next.length+2≤f+many→many≤next.length→Nl next.length part many→Sep next ends K part→(many=0∨∀ v∈part,v<many)→Sep next ends K (iT next K f many part)∧Stb next K (iT next K f many part)
 | 0,many,part,hf,hm,_,_,_=>by omega
 | f+1,many,part,hf,hm,hR,hS,hb=>by
   by_cases he:(bc next part K).2.length=many
   · rw[tR he]
     refine⟨hS,SI h hR (hb.resolve_left fun h0=>?_) he⟩
     obtain⟨K',rfl⟩:∃ k',K=k'+1:=⟨K-1,by have:=h.K0;omega⟩
     have hl:=eR hR.len (K'+1)
     have hp:=h.pos
     have:=nt (next:=next) (part:=part) K' (List.mem_of_getElem? (iq (pm:=(bc next part (K'+1)).1) (m:=0) (by omega)))
     omega
   · rw[rR (by omega) he,Nat.add_sub_cancel]
     have dV:=hR.step h.K0 he
     obtain⟨K',rfl⟩:∃ k',K=k'+1:=⟨K-1,by have:=h.K0;omega⟩
     exact rY h f _ _ (by omega) dV.2.2 dV.1 (hS.round h) (.inr fun v hv=>nt K' hv)
theorem CV {next:List (List Nat)}{ends:List Bool}{K:Nat}(h:nW next ends K):Sep next ends K (gZ next ends K)∧Stb next K (gZ next ends K):=
 rY h _ _ _ (by have:=h.len;omega) (by omega) (wZ h.len) (Sep.zero h) (.inl rfl)
theorem AF {next:List (List Nat)}{ends:List Bool}{K:Nat}(h:nW next ends K){q:Nat}(hq:q<next.length):Live next ends q↔∃ t,(∀ k∈t,k<K)∧jB next ends q t=true:=by
 constructor
 · intro hL
   induction hL with
   | ends he=>exact⟨[],by simp,by simp[jB,CU,he]⟩
   | @step q to row hr hm _ ih=>
     obtain⟨t,ht,ha⟩:=ih (h.yI _ (List.mem_of_getElem? hr) _ hm)
     obtain⟨k,hk⟩:=List.getElem?_of_mem hm
     have z7:k<K:=by rw[← h.rows _ (List.mem_of_getElem? hr)];exact (List.getElem?_eq_some_iff.1 hk).1
     refine⟨k::t,fun x hx=>by rcases List.mem_cons.1 hx with rfl|hx;(· exact z7);(· exact ht x hx),?_⟩
     have e:nx next q k=to:=by unfold nx;rw[hr,Option.getD_some,hk];rfl
     show jB next ends (nx next q k) t=true
     rw[e];exact ha
 · rintro⟨t,ht,ha⟩
   induction t generalizing q with
   | nil=>
     have he:ends[q]?.getD false=true:=ha
     rw[List.getElem?_eq_getElem (by have:=h.len;omega)] at he
     exact .ends (by rw[List.getElem?_eq_getElem (by have:=h.len;omega)];exact congrArg some he)
   | cons k t ih=>
     obtain⟨row,hr,hv,hb⟩:=h.get hq (ht k (by simp))
     exact .step hr (List.mem_of_getElem? hv) (ih hb (fun x hx=>ht x (by simp[hx])) ha)
def x5 (P:List Nat)(lv:List Bool)(met:List Nat)(to:Nat)(v:Int):Prop:=(lv[to]?=some false→v = -1)∧(lv[to]?=some true→∃ j:Nat,v=j∧(met.map (pt P))[j]?=some (pt P to))
theorem x5.mono {P:List Nat}{lv:List Bool}{met:List Nat}{to:Nat}{v:Int}(h:x5 P lv met to v)(t:List Nat):x5 P lv (met++t) to v:=by
 refine⟨h.1,fun hl=>?_⟩
 obtain⟨j,e,hj⟩:=h.2 hl
 refine⟨j,e,?_⟩
 rw[List.map_append,List.getElem?_append_left (List.getElem?_eq_some_iff.1 hj).1]
 exact hj
theorem Mj {P:List Nat}{lv:List Bool}{met:List Nat}{to:Nat}(hl:to<lv.length)(hn:(met.map (pt P)).Nodup) :
   x5 P lv (jQ P lv met to).2 to (jQ P lv met to).1∧((jQ P lv met to).2.map (pt P)).Nodup∧((jQ P lv met to).2=met∨((jQ P lv met to).2=met++[to]∧lv[to]?=some true∧(jQ P lv met to).1=(met.length:Int)))∧(jQ P lv met to).1≤(met.length:Int)∧((jQ P lv met to).1=(met.length:Int)→(jQ P lv met to).2=met++[to]):=by
 by_cases hb:lv[to]?=some true
 · rw[jK hb]
   dsimp only
   by_cases hm:pt P to∈met.map (pt P)
   · rw[if_pos hm]
     have cH:=uM hm
     rw[List.length_map] at cH
     refine⟨⟨fun h=>(by rw[hb] at h;cases h),fun _=>⟨_,rfl,nu hm⟩⟩,hn,.inl rfl,by omega,fun h=>?_⟩
     omega
   · rw[if_neg hm]
     have zV:=nj hm
     rw[List.length_map] at zV
     have g1:((met++[to]).map (pt P))[idx (met.map (pt P)) (pt P to)]?=some (pt P to):=by
       rw[zV,List.map_append,List.getElem?_append_right (by simp)]
       simp
     have g2:((met++[to]).map (pt P)).Nodup:=by
       rw[List.map_append,List.nodup_append]
       refine⟨hn,by simp,fun x hx y hy=>?_⟩
       simp only[List.map_cons,List.map_nil,List.mem_singleton] at hy
       subst hy
       rintro rfl
       exact hm hx
     exact⟨⟨fun h=>(by rw[hb] at h;cases h),fun _=>⟨_,rfl,g1⟩⟩,g2,.inr ⟨rfl,hb,by rw[zV]⟩,by omega,fun _=>rfl⟩
 · have hf:=sd hl hb
   rw[kS hf]
   refine⟨⟨fun _=>rfl,fun h=>(by rw[hf] at h;cases h)⟩,hn,.inl rfl,by omega,fun h=>?_⟩
   have:(-1:Int)=(met.length:Int):=h
   omega
theorem oI {P:List Nat}{lv:List Bool}:∀ (r met:List Nat),(∀ v∈r,v<lv.length)→(met.map (pt P)).Nodup →
   ((cz P lv r met).2.map (pt P)).Nodup∧(∃ t,(cz P lv r met).2=met++t∧∀ x∈t,lv[x]?=some true∧x∈r)∧∀ (k to:Nat)(v:Int),r[k]?=some to→(cz P lv r met).1[k]?=some v→x5 P lv (cz P lv r met).2 to v
 | [],met,_,hn=>⟨hn,⟨[],by simp[cz],by simp⟩,fun k to v h=>by simp at h⟩
 | x::r,met,hr,hn=>by
   obtain⟨h1,h2,h3,_,_⟩:=Mj (hr x (by simp)) hn
   obtain⟨h4,⟨t,ht,cH⟩,h6⟩:=oI r (jQ P lv met x).2 (fun v hv=>hr v (by simp[hv])) h2
   have e:(cz P lv (x::r) met).2=(cz P lv r (jQ P lv met x).2).2:=rfl
   have e1:(cz P lv (x::r) met).1=(jQ P lv met x).1::(cz P lv r (jQ P lv met x).2).1:=rfl
   rw[e,e1]
   refine⟨h4,?_,fun k to v hk hv=>?_⟩
   · rcases h3 with h3|⟨h3,hx,_⟩
     · rw[h3] at ht
       exact⟨t,by rw[← ht,h3],fun y hy=>⟨(cH y hy).1,List.mem_cons_of_mem _ (cH y hy).2⟩⟩
     · refine⟨x::t,by rw[ht,h3];simp,fun y hy=>?_⟩
       rcases List.mem_cons.1 hy with rfl|hy
       · exact⟨hx,by simp⟩
       · exact⟨(cH y hy).1,List.mem_cons_of_mem _ (cH y hy).2⟩
   · cases k with
     | zero=>
       obtain rfl:=Option.some.inj hk
       obtain rfl:=Option.some.inj hv
       rw[ht]
       exact h1.mono t
     | succ k=>exact h6 k to v hk hv
structure E6 (w:Wd)(P:List Nat)(lv:List Bool)(K i:Nat)(m:Lm):Prop where
 ln:m.next.length=i
 le:m.ends.length=i
 im:i≤m.met.length
 i6:i≤256
 z:m.met[0]?=some 0
 yI:∀ x∈m.met,x<w.next.length
 nd:(m.met.map (pt P)).Nodup
 liv:∀ x∈m.met,x≠0→lv[x]?=some true
 rows:∀ q s,q<i→m.met[q]?=some s→m.ends[q]?=w.ends[s]?∧∃ row,m.next[q]?=some row∧row.length=K∧∀ k v,k<K→row[k]?=some v→x5 P lv m.met (nx w.next s k) v
theorem E6.zero {w:Wd}{P:List Nat}{lv:List Bool}{K:Nat}(h:0<w.next.length):E6 w P lv K 0 ⟨[0],[],[]⟩:=
 ⟨rfl,rfl,Nat.zero_le _,by omega,rfl,fun x hx=>by rw[List.mem_singleton.1 hx];exact h,by simp,fun x hx h0=>absurd (List.mem_singleton.1 hx) h0,fun q s h=>by omega⟩
theorem E6.step {w:Wd}{P:List Nat}{lv:List Bool}{K i:Nat}{m:Lm}(hw:nW w.next w.ends K)(Cb:lv.length=w.next.length)(h:E6 w P lv K i m)(hi:i<m.met.length)(hm:m.met.length≤256):E6 w P lv K (i+1) (gH w P lv i m):=by
 obtain⟨s,hs⟩:∃ s,m.met[i]?=some s:=⟨_,List.getElem?_eq_getElem hi⟩
 have oR:=h.yI s (List.mem_of_getElem? hs)
 have hr:w.next[s]?=some w.next[s]:=List.getElem?_eq_getElem oR
 have he:w.ends[s]?=some (w.ends[s]'(by have:=hw.len;omega)):=List.getElem?_eq_getElem _
 rw[ns hs hr he]
 have hrK:=hw.rows _ (List.getElem_mem oR)
 have ZL:=hw.yI _ (List.getElem_mem oR)
 obtain⟨h4,⟨t,ht,cH⟩,h6⟩:=oI (P:=P) (lv:=lv) w.next[s] m.met (fun v hv=>by rw[Cb];exact ZL v hv) h.nd
 have hz0:=(List.getElem?_eq_some_iff.1 h.z).1
 refine⟨by simp[h.ln],by simp[h.le],by dsimp only;rw[ht];simp;omega,by omega,?_,?_,h4,?_,?_⟩
 · dsimp only;rw[ht,List.getElem?_append_left hz0];exact h.z
 · intro x hx
   dsimp only at hx
   rw[ht] at hx
   rcases List.mem_append.1 hx with hx|hx
   · exact h.yI x hx
   · exact ZL x (cH x hx).2
 · intro x hx h0
   dsimp only at hx
   rw[ht] at hx
   rcases List.mem_append.1 hx with hx|hx
   · exact h.liv x hx h0
   · exact (cH x hx).1
 · intro q s' hq mT
   dsimp only at mT ⊢
   rw[ht,List.getElem?_append_left (by omega)] at mT
   rcases Nat.lt_or_ge q i with ET|ET
   · obtain⟨e1,row,e2,e3,e4⟩:=h.rows q s' ET mT
     refine⟨by rw[List.getElem?_append_left (by rw[h.le];exact ET)];exact e1,row,by rw[List.getElem?_append_left (by rw[h.ln];exact ET)];exact e2,e3,fun k v hk hv=>?_⟩
     rw[ht]
     exact (e4 k v hk hv).mono t
   · obtain rfl:q=i:=by omega
     rw[hs] at mT
     obtain rfl:=Option.some.inj mT
     refine⟨by rw[List.getElem?_append_right (by rw[h.le];omega),h.le];simp[he],(cz P lv w.next[s] m.met).1,by rw[List.getElem?_append_right (by rw[h.ln];omega),h.ln];simp,by rw[rQ,hrK],fun k v hk hv=>?_⟩
     have Oy:w.next[s][k]?=some (nx w.next s k):=by
       unfold nx
       rw[hr,Option.getD_some,List.getElem?_eq_getElem (by omega)];rfl
     exact h6 k _ v Oy hv
theorem E6.run {w:Wd}{P:List Nat}{lv:List Bool}{K:Nat}(hw:nW w.next w.ends K)(Cb:lv.length=w.next.length):∀ (f i:Nat)(m m':Lm),E6 w P lv K i m→gJ w P lv f i m=some m'→E6 w P lv K m'.met.length m'
 | 0,_,_,_,_,h=>by cases h
 | f+1,i,m,m',hI,h=>by
   unfold gJ at h
   by_cases hi:i<m.met.length
   · rw[if_pos hi] at h
     by_cases hm:256<m.met.length
     · rw[if_pos hm] at h;cases h
     · rw[if_neg hm] at h
       exact E6.run hw Cb f (i+1) _ m' (hI.step hw Cb hi (by omega)) h
   · rw[if_neg hi] at h
     obtain rfl:=Option.some.inj h
     have:=hI.im
     rwa [show m.met.length=i by omega]
theorem EK {w:Wd}{P:List Nat}{lv:List Bool}{K:Nat}(hw:nW w.next w.ends K)(Cb:lv.length=w.next.length){m:Lm}(h:VW w P lv=some m):E6 w P lv K m.met.length m:=E6.run hw Cb _ _ _ _ (E6.zero hw.pos) h
def gD (d:Df)(q:Int)(k:Nat):Int:=if q<0 then -1 else CY d q k
def agC (d:Df)(q:Int)(t:List Nat):Int:=t.foldl (gD d) q
def J0 (d:Df)(q:Int)(t:List Nat):Bool:=iL d (agC d q t)
structure Gv (w:Wd)(lv:List Bool)(K:Nat)(m:Lm)(d:Df):Prop where
 hw:nW w.next w.ends K
 hl:l6 w.next w.ends lv
 I:E6 w (gZ w.next w.ends K) lv K m.met.length m
 nx:d.next=m.next
 en:d.ends=m.ends
theorem Gv.len {w:Wd}{lv:List Bool}{K:Nat}{m:Lm}{d:Df}(h:Gv w lv K m d):d.next.length=m.met.length∧d.ends.length=m.met.length∧1≤m.met.length∧m.met.length≤256:=
 ⟨by rw[h.nx];exact h.I.ln,by rw[h.en];exact h.I.le,(List.getElem?_eq_some_iff.1 h.I.z).1,h.I.i6⟩
theorem Gv.shp {w:Wd}{lv:List Bool}{K:Nat}{m:Lm}{d:Df}(h:Gv w lv K m d)(ha:MZ d.atoms)(hK:d.atoms.length=K)(bZ:K≤256):iR d:=by
 obtain⟨h1,h2,h3,h4⟩:=h.len
 have o6:=h.hw.K0
 refine⟨⟨by omega,by omega,by omega,by omega,by omega⟩,ha,fun r hr=>?_⟩
 rw[h.nx] at hr
 obtain⟨q,hq⟩:=List.getElem?_of_mem hr
 have Fk:=(List.getElem?_eq_some_iff.1 hq).1
 rw[h.I.ln] at Fk
 obtain⟨s,hs⟩:∃ s,m.met[q]?=some s:=⟨_,List.getElem?_eq_getElem Fk⟩
 obtain⟨_,row,e2,e3,e4⟩:=h.I.rows q s Fk hs
 rw[hq] at e2
 obtain rfl:=Option.some.inj e2
 refine⟨by omega,fun v hv=>?_⟩
 obtain⟨k,hk⟩:=List.getElem?_of_mem hv
 have z7:k<K:=by rw[← e3];exact (List.getElem?_eq_some_iff.1 hk).1
 have hN:=e4 k v z7 hk
 have oR:=h.I.yI s (List.mem_of_getElem? hs)
 have Wn:=(h.hw.get oR z7).choose_spec.2.2
 by_cases hb:lv[cm.nx w.next s k]?=some true
 · obtain⟨j,rfl,hj⟩:=hN.2 hb
   have:=(List.getElem?_eq_some_iff.1 hj).1
   rw[List.length_map] at this
   omega
 · rw[hN.1 (sd (by rw[h.hl.1];exact Wn) hb)]
   omega
def uR (atoms:List Kl.Cl)(w:List UInt8):List Nat:=w.map fun b=>uT atoms b.toNat
def LmT (w:Wd)(P:List Nat)(lv:List Bool)(K q:Nat)(mi m:Lm):Prop:=E6 w P lv K q mi∧∃ f,gJ w P lv f q mi=some m
def ClD (d:Df)(L:List Bool):Prop:=∀ (p j:Nat)(row:List Int)(v:Int),d.next[p]?=some row→row[j]?=some v→0≤v→L[v.toNat]?=some true→L[p]?=some true
structure RdI (d:Df)(L0 L:List Bool)(q k:Nat):Prop where
 fix:ClD d L0→L=L0
 len:L.length=d.ends.length
 ams:L0.length=d.ends.length
 mono:∀ x:Nat,L0[x]?=some true→L[x]?=some true
 done:∀ (p j:Nat)(row:List Int)(v:Int),(p<q∨(p=q∧j<k))→d.next[p]?=some row→row[j]?=some v→0≤v→L0[v.toNat]?=some true→L[p]?=some true
def goE (d:Df)(p k:Nat):Nat:=if p=d.ends.length∨CY d (p:Int) k<0 then d.ends.length else (CY d (p:Int) k).toNat
def Of (d:Df)(p:Nat):Bool:=decide (p<d.ends.length)&&d.ends[p]?.getD false
def uG (U:List (List Bool))(p q:Nat):Bool:=(U[p]?.getD [])[q]?.getD false
def ClU (d:Df)(U:List (List Bool)):Prop:=∀ p q k,p≤d.ends.length→q≤d.ends.length→k<d.atoms.length→uG U (goE d p k) (goE d q k)=true→uG U p q=true
def amt (d:Df)(U:List (List Bool)):Prop:=∀ p q,p≤d.ends.length→q≤d.ends.length→Of d p≠Of d q→uG U p q=true
def qI (d:Df)(p:Nat):Int:=if p=d.ends.length then -1 else (p:Int)
theorem xg {fol rds:List Sp}{l1:Sp}:∀ (f q:Nat)(w:Wd),q+f=full→w.met.Nodup→w.next.length=q+1→w.ends.length=q+1→q≤w.met.length →
   (gF fol rds l1 f q w).next.length=(gF fol rds l1 f q w).met.length+1∧(gF fol rds l1 f q w).ends.length=(gF fol rds l1 f q w).met.length+1∧(gF fol rds l1 f q w).met.Nodup
 | 0,q,w,hf,hn,h1,h2,h3=>by
   have:=kO hn
   unfold full at hf
   omega
 | f+1,q,w,hf,hn,h1,h2,h3=>by
   unfold gF
   by_cases hq:q<w.met.length
   · rw[if_pos hq]
     have hm:=jm (eF fol (w.met[q]?.getD 0) fol.length) rds w.met
     exact xg f (q+1) _ (by omega) (jw _ _ _ hn) (by simp[lP,Wd.row,h1]) (by simp[lP,Wd.row,h2]) (by show q+1≤(dY rds _ w.met).2.length;omega)
   · rw[if_neg hq]
     exact⟨by omega,by omega,hn⟩
theorem Gu (x:fk)(root:Pt)(atoms:List Kl.Cl):(dJ x root atoms).next.length=(dJ x root atoms).met.length+1∧(dJ x root atoms).ends.length=(dJ x root atoms).met.length+1∧(dJ x root atoms).met.Nodup:=
 xg _ _ _ (by omega) (jw _ _ _ List.nodup_nil) (by simp[ur,Wd.row]) (by simp[ur,Wd.row]) (Nat.zero_le _)
theorem CF (re:List Nd)(n:Nd)(ks:F):nW (jx re n ks).next (jx re n ks).ends (atoms (bB re)).length:=by
 obtain⟨h1,h2,_⟩:=Gu (aZ n ks ⟨[],[]⟩).2 (aZ n ks ⟨[],[]⟩).1 (atoms (bB re))
 have hb:=xh (aZ n ks ⟨[],[]⟩).2 (aZ n ks ⟨[],[]⟩).1 (atoms (bB re))
 refine⟨?_,?_,(ig _).1,hb.len,fun r hr v hv=>?_⟩
 · exact h2.trans h1.symm
 · show 0<(dJ _ _ _).next.length;omega
 · have:=hb.yI r hr v hv
   show v<(dJ _ _ _).next.length;omega
theorem WS {re:List Nd}{d:Df}(h:yJ re d):∃ (n:Nd)(ks:F)(lv:List Bool)(m:Lm),Mc.iR re n ks∧ez re=false∧(F.nd n ks .nil).weight≤20∧d.atoms=atoms (bB re)∧Gv (jx re n ks) lv d.atoms.length m d∧VW (jx re n ks) (gZ (jx re n ks).next (jx re n ks).ends d.atoms.length) lv=some m∧cm.iR d:=by
 obtain⟨_,n,ks,lv,m,hS,hr,hw,hl,hm,h1,h2,h3⟩:=h
 have hW:=CF re n ks
 rw[← h3] at hW
 have zZ:VW (jx re n ks) (gZ (jx re n ks).next (jx re n ks).ends d.atoms.length) lv=some m:=by rw[h3];exact hm
 have hk:Gv (jx re n ks) lv d.atoms.length m d:=⟨hW,hl,EK hW hl.1 zZ,h1,h2⟩
 refine⟨n,ks,lv,m,hS,hr,hw,h3,hk,zZ,hk.shp (by rw[h3];exact qY _) rfl (by rw[h3];exact (ig _).2)⟩
inductive Path (E T:Nat→Nat→Prop):Nat→Nat→Nat→Nat→Prop
 | one {p i:Nat}(h:T p i):Path E T p i p (i+1)
 | step {p i r q j:Nat}(h:T p i)(he:E p r)(hr:Path E T r (i+1) q j):Path E T p i q j
theorem Path.lt {E T:Nat→Nat→Prop}{p i q j:Nat}(h:Path E T p i q j):i<j:=by
 induction h with
 | one=>omega
 | step _ _ _ ih=>omega
theorem Path.trans {E T:Nat→Nat→Prop}{p i q m r s j:Nat}(h:Path E T p i q m)(he:E q r)(h':Path E T r m s j):Path E T p i s j:=by
 induction h with
 | one ht=>exact .step ht he h'
 | step ht h1 _ ih=>exact .step ht h1 (ih he h')
theorem Path.mono {E E' T T':Nat→Nat→Prop}{R:Nat→Prop}(hE:∀ p q,R p→E p q→E' p q)(hR:∀ p q,R p→E p q→R q)(hT:∀ p i,R p→T p i→T' p i){p i q j:Nat}(h:Path E T p i q j)(hp:R p):Path E' T' p i q j:=by
 induction h with
 | one ht=>exact .one (hT _ _ hp ht)
 | step ht h1 _ ih=>exact .step (hT _ _ hp ht) (hE _ _ hp h1) (ih (hR _ _ hp h1))
theorem Path.stay {E T:Nat→Nat→Prop}{R:Nat→Prop}(hR:∀ p q,R p→E p q→R q){p i q j:Nat}(h:Path E T p i q j)(hp:R p):R q:=by
 induction h with
 | one ht=>exact hp
 | step ht h1 _ ih=>exact ih (hR _ _ hp h1)
def zX (c:Pt)(B E:Bool):Bool:=if B then (if E then c.n11 else c.n10) else (if E then c.n01 else c.n00)
def iY (c:Pt)(B:Bool)(p:Nat):Prop:=(if B then c.f1 else c.f0).getLsbD p=true
def jT (c:Pt)(E:Bool)(p:Nat):Prop:=(if E then c.l1 else c.l0).getLsbD p=true
structure Fr (N:Nat)(E T:Nat→Nat→Prop)(R:Nat→Prop)(c:Pt)(D:Nat→Nat→Prop):Prop where
 rF:∀ b p,iY c b p→R p
 rL:∀ b p,jT c b p→R p
 rE:∀ p q,R p→E p q→R q
 nl:∀ i,i≤N→(D i i↔zX c (decide (i=0)) (decide (i=N))=true)
 ph:∀ i j,i<j→j≤N→(D i j↔∃ p q,iY c (decide (i=0)) p∧Path E T p i q j∧jT c (decide (j=N)) q)
 ui:∀ i j,i≤N→D i j→i≤j∧j≤N
theorem Fr.congr {N:Nat}{E T E' T':Nat→Nat→Prop}{R:Nat→Prop}{c:Pt}{D:Nat→Nat→Prop}(h:Fr N E T R c D)(hE:∀ p q,R p→(E p q↔E' p q))(hT:∀ p i,R p→(T p i↔T' p i)):Fr N E' T' R c D where
 rF:=h.rF
 rL:=h.rL
 rE:=fun p q hp he=>h.rE p q hp ((hE p q hp).2 he)
 nl:=h.nl
 ph:=fun i j nn hj=>by
   rw[h.ph i j nn hj]
   constructor
   · rintro⟨p,q,h1,h2,h3⟩
     exact⟨p,q,h1,h2.mono (R:=R) (fun p q hp he=>(hE p q hp).1 he) h.rE (fun p i hp ht=>(hT p i hp).1 ht) (h.rF _ _ h1),h3⟩
   · rintro⟨p,q,h1,h2,h3⟩
     exact⟨p,q,h1,h2.mono (R:=R) (fun p q hp he=>(hE p q hp).2 he) (fun p q hp he=>h.rE p q hp ((hE p q hp).2 he)) (fun p i hp ht=>(hT p i hp).2 ht) (h.rF _ _ h1),h3⟩
 ui:=h.ui
theorem Fr.iff {N:Nat}{E T:Nat→Nat→Prop}{R:Nat→Prop}{c:Pt}{D D':Nat→Nat→Prop}(h:Fr N E T R c D)(hD:∀ i j,i≤N→(D i j↔D' i j)):Fr N E T R c D' where
 rF:=h.rF
 rL:=h.rL
 rE:=h.rE
 nl:=fun i hi=>(hD i i hi).symm.trans (h.nl i hi)
 ph:=fun i j nn hj=>(hD i j (by omega)).symm.trans (h.ph i j nn hj)
 ui:=fun i j hi hd=>h.ui i j hi ((hD i j hi).2 hd)
theorem Jk (a b:Sp)(p:Nat):(a ||| b).getLsbD p=true↔a.getLsbD p=true∨b.getLsbD p=true:=by rw[BitVec.getLsbD_or,Bool.or_eq_true]
theorem AL (s t:Sp)(b:Bool)(p:Nat):(GR s b t).getLsbD p=true↔s.getLsbD p=true∨(b=true∧t.getLsbD p=true):=by
 unfold GR
 cases b <;> simp[BitVec.getLsbD_or]
theorem pX (a b:Pt)(B:Bool)(p:Nat):iY (ji a b) B p↔iY a B p∨(zX a B false=true∧iY b B p):=by
 cases B <;> simp[iY,ji,zX,AL]
theorem lY (a b:Pt)(E:Bool)(p:Nat):jT (ji a b) E p↔jT b E p∨(zX b false E=true∧jT a E p):=by
 cases E <;> simp[jT,ji,zX,AL]
theorem Ob (a b:Pt)(B E:Bool):zX (ji a b) B E=true↔zX a B E=true∧zX b B E=true:=by
 cases B <;> cases E <;> simp[zX,ji]
theorem tw (a b:Pt)(B:Bool)(p:Nat):iY (ib a b) B p↔iY a B p∨iY b B p:=by
 cases B <;> simp[iY,ib,BitVec.getLsbD_or]
theorem pY (a b:Pt)(E:Bool)(p:Nat):jT (ib a b) E p↔jT a E p∨jT b E p:=by
 cases E <;> simp[jT,ib,BitVec.getLsbD_or]
theorem Od (a b:Pt)(B E:Bool):zX (ib a b) B E=true↔zX a B E=true∨zX b B E=true:=by
 cases B <;> cases E <;> simp[zX,ib]
theorem Fr.cat {N:Nat}{E E' T:Nat→Nat→Prop}{R1 R2:Nat→Prop}{a b:Pt}{D1 D2:Nat→Nat→Prop}(h1:Fr N E T R1 a D1)(h2:Fr N E T R2 b D2)(hd:∀ p,R1 p→R2 p→False)
   (JK:∀ p q,R1 p→(E' p q↔E p q∨(jT a false p∧iY b false q)))(Qn:∀ p q,R2 p→(E' p q↔E p q)):Fr N E' T (fun p=>R1 p∨R2 p) (ji a b) (fun i j=>∃ t,D1 i t∧D2 t j):=by
 have JL:∀ p q,R2 p→E' p q→R2 q:=fun p q hp he=>h2.rE p q hp ((Qn p q hp).1 he)
 have p2:∀ {p i q j},R2 p→(Path E' T p i q j↔Path E T p i q j):=by
   intro p i q j hp
   exact⟨fun h=>h.mono (R:=R2) (fun p q hp he=>(Qn p q hp).1 he) JL (fun _ _ _ h=>h) hp,fun h=>h.mono (R:=R2) (fun p q hp he=>(Qn p q hp).2 he) h2.rE (fun _ _ _ h=>h) hp⟩
 have p1:∀ {p i q j},R1 p→Path E T p i q j→Path E' T p i q j:=fun hp h=>h.mono (R:=R1) (fun p q hp he=>(JK p q hp).2 (.inl he)) h1.rE (fun _ _ _ h=>h) hp
 have spl:∀ {p i q j},Path E' T p i q j→R1 p→(R1 q∧Path E T p i q j)∨(R2 q∧∃ q' p' m,Path E T p i q' m∧jT a false q'∧iY b false p'∧Path E T p' m q j):=by
   intro p i q j h
   induction h with
   | one ht=>exact fun hp=>.inl ⟨hp,.one ht⟩
   | @step p i r q j ht he hr ih=>
     intro hp
     rcases (JK _ _ hp).1 he with sH|⟨hA,hB⟩
     · rcases ih (h1.rE _ _ hp sH) with ⟨hq,hP⟩|⟨hq,q',p',m,hP,hx⟩
       · exact .inl ⟨hq,.step ht sH hP⟩
       · exact .inr ⟨hq,q',p',m,.step ht sH hP,hx⟩
     · have Xz:=h2.rF _ _ hB
       exact .inr ⟨hr.stay JL Xz,p,r,i+1,.one ht,hA,hB,(p2 Xz).1 hr⟩
 refine⟨?_,?_,?_,?_,?_,?_⟩
 · intro B p hp
   rcases (pX a b B p).1 hp with h|⟨_,h⟩
   · exact .inl (h1.rF _ _ h)
   · exact .inr (h2.rF _ _ h)
 · intro B p hp
   rcases (lY a b B p).1 hp with h|⟨_,h⟩
   · exact .inr (h2.rL _ _ h)
   · exact .inl (h1.rL _ _ h)
 · rintro p q (hp|hp) he
   · rcases (JK p q hp).1 he with h|⟨_,h⟩
     · exact .inl (h1.rE _ _ hp h)
     · exact .inr (h2.rF _ _ h)
   · exact .inr (JL p q hp he)
 · intro i hi
   rw[Ob,← h1.nl i hi,← h2.nl i hi]
   constructor
   · rintro⟨t,ha,hb⟩
     have x1:=h1.ui i t hi ha
     have x2:=h2.ui t i (by omega) hb
     obtain rfl:t=i:=by omega
     exact⟨ha,hb⟩
   · rintro⟨ha,hb⟩;exact⟨i,ha,hb⟩
 · intro i j nn hj
   constructor
   · rintro⟨t,ha,hb⟩
     have x1:=h1.ui i t (by omega) ha
     have x2:=h2.ui t j (by omega) hb
     rcases Nat.lt_or_ge i t with mX|mX
     · rcases Nat.lt_or_ge t j with htj|htj
       · obtain⟨p,q',g1,g2,g3⟩:=(h1.ph i t mX (by omega)).1 ha
         obtain⟨p',q,g4,g5,g6⟩:=(h2.ph t j htj hj).1 hb
         rw[decide_eq_false (by omega)] at g3 g4
         refine⟨p,q,(pX _ _ _ _).2 (.inl g1),(p1 (h1.rF _ _ g1) g2).trans ((JK _ _ (h1.rL _ _ g3)).2 (.inr ⟨g3,g4⟩)) ((p2 (h2.rF _ _ g4)).2 g5),(lY _ _ _ _).2 (.inl g6)⟩
       · obtain rfl:t=j:=by omega
         obtain⟨p,q',g1,g2,g3⟩:=(h1.ph i t mX hj).1 ha
         have g4:=(h2.nl t hj).1 hb
         rw[decide_eq_false (show ¬ t=0 by omega)] at g4
         exact⟨p,q',(pX _ _ _ _).2 (.inl g1),p1 (h1.rF _ _ g1) g2,(lY _ _ _ _).2 (.inr ⟨g4,g3⟩)⟩
     · obtain rfl:t=i:=by omega
       obtain⟨p',q,g4,g5,g6⟩:=(h2.ph t j nn hj).1 hb
       have g7:=(h1.nl t (by omega)).1 ha
       rw[decide_eq_false (show ¬ t=N by omega)] at g7
       exact⟨p',q,(pX _ _ _ _).2 (.inr ⟨g7,g4⟩),(p2 (h2.rF _ _ g4)).2 g5,(lY _ _ _ _).2 (.inl g6)⟩
   · rintro⟨p,q,hF,hP,hL⟩
     rcases (pX _ _ _ _).1 hF with hF|⟨hn,hF⟩
     · have hp:=h1.rF _ _ hF
       rcases spl hP hp with ⟨hq,hP'⟩|⟨hq,q',p',m,g1,g2,g3,g4⟩
       · rcases (lY _ _ _ _).1 hL with hL|⟨hn,hL⟩
         · exact (hd q hq (h2.rL _ _ hL)).elim
         · refine⟨j,(h1.ph i j nn hj).2 ⟨p,q,hF,hP',hL⟩,(h2.nl j hj).2 ?_⟩
           rw[decide_eq_false (show ¬ j=0 by omega)];exact hn
       · have m1:=g1.lt
         have m2:=g4.lt
         have hL':jT b (decide (j=N)) q:=by
           rcases (lY _ _ _ _).1 hL with hL|⟨_,hL⟩
           · exact hL
           · exact (hd q (h1.rL _ _ hL) hq).elim
         refine⟨m,(h1.ph i m m1 (by omega)).2 ⟨p,q',hF,g1,?_⟩,(h2.ph m j m2 hj).2 ⟨p',q,?_,g4,hL'⟩⟩
         · rw[decide_eq_false (by omega)];exact g2
         · rw[decide_eq_false (by omega)];exact g3
     · have hp:=h2.rF _ _ hF
       have hP':=(p2 hp).1 hP
       have hq:=hP'.stay h2.rE hp
       have hL':jT b (decide (j=N)) q:=by
         rcases (lY _ _ _ _).1 hL with hL|⟨_,hL⟩
         · exact hL
         · exact (hd q (h1.rL _ _ hL) hq).elim
       refine⟨i,(h1.nl i (by omega)).2 ?_,(h2.ph i j nn hj).2 ⟨p,q,hF,hP',hL'⟩⟩
       rw[decide_eq_false (show ¬ i=N by omega)];exact hn
 · rintro i j hi ⟨t,ha,hb⟩
   have x1:=h1.ui i t hi ha
   have x2:=h2.ui t j (by omega) hb
   omega
theorem Fr.alt {N:Nat}{E T:Nat→Nat→Prop}{R1 R2:Nat→Prop}{a b:Pt}{D1 D2:Nat→Nat→Prop}(h1:Fr N E T R1 a D1)(h2:Fr N E T R2 b D2)(hd:∀ p,R1 p→R2 p→False):Fr N E T (fun p=>R1 p∨R2 p) (ib a b) (fun i j=>D1 i j∨D2 i j) where
 rF:=fun B p hp=>by
   rcases (tw a b B p).1 hp with h|h
   · exact .inl (h1.rF _ _ h)
   · exact .inr (h2.rF _ _ h)
 rL:=fun B p hp=>by
   rcases (pY a b B p).1 hp with h|h
   · exact .inl (h1.rL _ _ h)
   · exact .inr (h2.rL _ _ h)
 rE:=fun p q hp he=>hp.imp (fun h=>h1.rE _ _ h he) (fun h=>h2.rE _ _ h he)
 nl:=fun i hi=>by rw[Od,← h1.nl i hi,← h2.nl i hi]
 ph:=fun i j nn hj=>by
   rw[h1.ph i j nn hj,h2.ph i j nn hj]
   constructor
   · rintro (⟨p,q,g1,g2,g3⟩|⟨p,q,g1,g2,g3⟩)
     · exact⟨p,q,(tw _ _ _ _).2 (.inl g1),g2,(pY _ _ _ _).2 (.inl g3)⟩
     · exact⟨p,q,(tw _ _ _ _).2 (.inr g1),g2,(pY _ _ _ _).2 (.inr g3)⟩
   · rintro⟨p,q,g1,g2,g3⟩
     rcases (tw _ _ _ _).1 g1 with g1|g1
     · have hq:=g2.stay h1.rE (h1.rF _ _ g1)
       rcases (pY _ _ _ _).1 g3 with g3|g3
       · exact .inl ⟨p,q,g1,g2,g3⟩
       · exact (hd q hq (h2.rL _ _ g3)).elim
     · have hq:=g2.stay h2.rE (h2.rF _ _ g1)
       rcases (pY _ _ _ _).1 g3 with g3|g3
       · exact (hd q (h1.rL _ _ g3) hq).elim
       · exact .inr ⟨p,q,g1,g2,g3⟩
 ui:=fun i j hi h=>h.elim (h1.ui i j hi) (h2.ui i j hi)
theorem Fr.plus {N:Nat}{E E' T:Nat→Nat→Prop}{R:Nat→Prop}{a:Pt}{D:Nat→Nat→Prop}(h:Fr N E T R a D)(hE:∀ p q,R p→(E' p q↔E p q∨(jT a false p∧iY a false q))):Fr N E' T R a (fun i j=>∃ k,1≤k∧pow D k i j):=by
 have SU:∀ k i j,i≤N→pow D k i j→i≤j∧j≤N:=by
   intro k
   induction k with
   | zero=>intro i j hi hp;have:i=j:=hp;omega
   | succ k ih=>
     rintro i j hi ⟨m,h1,h2⟩
     have x1:=h.ui i m hi h1
     have x2:=ih m j (by omega) h2
     omega
 have stay:∀ p q,R p→E' p q→R q:=fun p q hp he=>by
   rcases (hE p q hp).1 he with h1|⟨_,h1⟩
   · exact h.rE _ _ hp h1
   · exact h.rF _ _ h1
 have up:∀ {p i q j},R p→Path E T p i q j→Path E' T p i q j:=fun hp hP=>hP.mono (R:=R) (fun p q hp he=>(hE p q hp).2 (.inl he)) h.rE (fun _ _ _ h=>h) hp
 have fwd:∀ k i j,i<j→j≤N→pow D k i j→∃ p q,iY a (decide (i=0)) p∧Path E' T p i q j∧jT a (decide (j=N)) q:=by
   intro k
   induction k with
   | zero=>intro i j nn hj hp;have:i=j:=hp;omega
   | succ k ih=>
     rintro i j nn hj ⟨m,h1,h2⟩
     have x1:=h.ui i m (by omega) h1
     have x2:=SU k m j (by omega) h2
     rcases Nat.lt_or_ge i m with EM|EM
     · obtain⟨p,q,g1,g2,g3⟩:=(h.ph i m EM (by omega)).1 h1
       rcases Nat.lt_or_ge m j with Sg|Sg
       · obtain⟨p',q',g4,g5,g6⟩:=ih m j Sg hj h2
         rw[decide_eq_false (by omega)] at g3 g4
         exact⟨p,q',g1,(up (h.rF _ _ g1) g2).trans ((hE _ _ (h.rL _ _ g3)).2 (.inr ⟨g3,g4⟩)) g5,g6⟩
       · obtain rfl:m=j:=by omega
         exact⟨p,q,g1,up (h.rF _ _ g1) g2,g3⟩
     · obtain rfl:m=i:=by omega
       exact ih m j nn hj h2
 have cut:∀ {p i q j},Path E' T p i q j→R p→(Path E T p i q j)∨∃ q' r m,Path E T p i q' m∧jT a false q'∧iY a false r∧Path E' T r m q j:=by
   intro p i q j hP
   induction hP with
   | one ht=>exact fun _=>.inl (.one ht)
   | @step p i r q j ht he hr ih=>
     intro hp
     rcases (hE _ _ hp).1 he with sH|⟨hA,hB⟩
     · rcases ih (h.rE _ _ hp sH) with h1|⟨q',r',m,h1,h2⟩
       · exact .inl (.step ht sH h1)
       · exact .inr ⟨q',r',m,.step ht sH h1,h2⟩
     · exact .inr ⟨p,r,i+1,.one ht,hA,hB,hr⟩
 have bwd:∀ n i j,j≤i+n→j≤N→∀ p q,iY a (decide (i=0)) p→Path E' T p i q j→jT a (decide (j=N)) q→∃ k,1≤k∧pow D k i j:=by
   intro n
   induction n with
   | zero=>intro i j hn hj p q _ hP _;have:=hP.lt;omega
   | succ n ih=>
     intro i j hn hj p q hF hP hL
     rcases cut hP (h.rF _ _ hF) with h1|⟨q',r,m,h1,h2,h3,h4⟩
     · exact⟨1,Nat.le_refl _,j,(h.ph i j h1.lt hj).2 ⟨p,q,hF,h1,hL⟩,rfl⟩
     · have m1:=h1.lt
       have m2:=h4.lt
       obtain⟨k,hk,gS⟩:=ih m j (by omega) hj r q (by rw[decide_eq_false (by omega)];exact h3) h4 hL
       exact⟨k+1,by omega,m,(h.ph i m m1 (by omega)).2 ⟨p,q',hF,h1,by rw[decide_eq_false (by omega)];exact h2⟩,gS⟩
 refine⟨h.rF,h.rL,stay,fun i hi=>?_,fun i j nn hj=>?_,fun i j hi ⟨k,_,hp⟩=>SU k i j hi hp⟩
 · rw[← h.nl i hi]
   constructor
   · rintro⟨k,hk,hp⟩
     obtain⟨k,rfl⟩:∃ k',k=k'+1:=⟨k-1,by omega⟩
     obtain⟨m,h1,h2⟩:=hp
     have x1:=h.ui i m hi h1
     have x2:=SU k m i (by omega) h2
     obtain rfl:m=i:=by omega
     exact h1
   · intro hd;exact⟨1,Nat.le_refl _,i,hd,rfl⟩
 · constructor
   · rintro⟨k,_,hp⟩;exact fwd k i j nn hj hp
   · rintro⟨p,q,g1,g2,g3⟩;exact bwd (j-i) i j (by omega) hj p q g1 g2 g3
end Go.HL.cm
