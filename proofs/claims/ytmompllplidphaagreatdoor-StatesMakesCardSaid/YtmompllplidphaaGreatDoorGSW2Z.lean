/- Part of the proofs over this seat: see the text that holds the theorem. Conditions: each theorem bears its own. -/
import Derived.Test.YtmompllplidphaaGreatDoorHTZ
import Derived.Test.YtmompllplidphaaGreatDoorSM1Z
import Derived.Test.YtmompllplidphaaGreatDoorMC9Z
import Derived.Test.YtmompllplidphaaGreatDoorGSN1Z
namespace Go.Proofs.YtmompllplidphaaGreatDoor
open Go Go.HL Go.Proofs Go.HL.Kl Go.HL.Kl.Mc Go.HL.cm
theorem Bi (bx:Nat)(ra:Option Addr)(rc rn:Nat)(sa:Option Addr)(sc sn:Nat)(fa:Option Addr)(fc:Nat)(fol:List Sp)(Sf:Hp)(hf:aG E3 3 90 (.slice fa fol.length fc) fol Sf)(a b:Sp)(hl:fol.length≤24):HL.Fn Tryz.prog 134 [.pointer (some ⟨bx,0,none⟩),.agg (E3 (a)).toArray,.agg (E3 (b)).toArray] (fun _=>True) ((bx,.cells [.slice ra rn rc,.slice sa sn sc,.slice fa fol.length fc].toArray 86 (0,0))::Sf) (fun _ S'=>∃ Ip,S'=((bx,.cells [.slice ra rn rc,.slice sa sn sc,.slice fa (fl fol a b).length fc].toArray 86 (0,0))::Ip)∧aG E3 3 90 (.slice fa (fl fol a b).length fc) (fl fol a b) Ip):=by
 refine aW Tryz.func134 rfl rfl rfl fun w0 hw=>?_
 rw[ef]
 refine cR fun _ bI=>?_;refine cB rfl rfl rfl fun b4=>?_;refine cB rfl rfl rfl fun b5=>?_;refine oZ bI (cR fun _ bJ=>?_);refine oM ?_;refine oS sN ?_;refine oS sF ?_;refine oS sL ?_;refine oS sC (oM (oZ bJ (ai ?_)));refine cY (fun (i:Nat)(Si:Hp)=>i≤fol.length∧aG E3 3 90 (.slice fa fol.length fc) (gN fol a b i) Si) (fun (i:Nat)(Si:Hp)=>[(12,.int .i64 i)]) [(0,_),(4,_),(5,_),(11,_)] (fun (i:Nat)(Si:Hp)=>(b4,.cells (E3 (a)).toArray 90 (0,0))::(b5,.cells (E3 (b)).toArray 90 (0,0))::(bx,.cells [.slice ra rn rc,.slice sa sn sc,.slice fa fol.length fc].toArray 86 (0,0))::Si) (fun (i:Nat)(Si:Hp)=>fol.length-i) 0 Sf ⟨by omega,by simpa [gN] using hf⟩ aH aH aP ?_
 rintro i Si ⟨hI,hO⟩
 have Ib:=Dl fol a b i
 have dr:=hO.sl
 rw[Ib] at dr
 refine cR fun _ bK=>?_;refine oS (aF rfl rfl) ?_;refine oZ bK (ah fun _ bU=>?_);refine cx rfl (fun cH=>?_) (fun cH=>?_)
 ·obtain⟨s,hs⟩:∃ s,fol[i]?=some s:=gE
  refine ax (xZ bU (ah fun _ bT=>?_));refine ai (cR fun _ bZ=>?_);refine oM (oA (oZ bZ (cR fun _ cj=>?_)));refine oS (aD rfl (aI.aO (.own aV)) aS) ?_;refine oM ?_;refine ar (Fl a i (by omega)) rfl rfl rfl (fun _ _=>trivial) (fun v17 IU=>?_);subst IU
  cases hb:BitVec.getLsbD a i
  ·refine oZ cj ?_;refine cF (ax (aq (xZ bT (ae ?_))));refine oS sD (oM (ak ?_));exact xI (i+1,_) ⟨by omega,by rw[← Hj hs hb];exact hO⟩
  ·refine oZ cj ?_;refine cT ?_;refine aK ((b4,.cells (E3 (a)).toArray 90 (0,0))::(b5,.cells (E3 (b)).toArray 90 (0,0))::(bx,.cells [.slice ra rn rc,.slice sa sn sc,.slice fa fol.length fc].toArray 86 (0,0))::Si) (fun i=>Nat.beq i 15) ?_;refine eK 0 rfl sM ?_;refine eK 1 rfl sN ?_;refine eK 2 rfl sF ?_;refine eK 3 rfl sL ?_;refine eK 4 rfl sM ?_;refine eK 5 rfl sM ?_;refine eK 6 rfl sN ?_;refine eK 7 rfl sF ?_;refine eK 8 rfl sL ?_;refine eK 9 rfl sM ?_;refine eK 10 rfl (au rfl rfl (by assumption) (by omega)) ?_;refine eK 11 rfl (aD rfl ((hO.aU aM).gx i (Dm hs) rfl) aS) ?_;refine eK 12 rfl (aD rfl (aI.aO (.own aV)) aS) ?_;refine eO 13 rfl ?_;refine ar (rA s b) rfl rfl rfl (fun _ _=>trivial) (fun v31 afb=>?_);subst afb
   refine oX (eO 14 rfl ?_);refine oS (au rfl rfl (by assumption) (by omega)) ?_;refine oX (eO 15 rfl ?_);refine lX i (s ||| b) hO bh rfl rfl (by omega) (by rw[Int.toNat_natCast]) fun Nk Hx=>?_
   rw[Dn hs hb] at Hx
   refine ak ?_;refine cE rfl ?_;refine cw (by kernel_rfl) ?_;refine aq (xZ bT (ae ?_));refine oS sD (oM (ak ?_));exact xI (i+1,_) ⟨by omega,Hx⟩
 ·obtain rfl:i=fol.length:=by omega
  rw[Dq] at hO
  refine ay ?_;refine ad (ad (ag ?_));refine cM (Sub.refl _) (H':=(bx,.cells [.slice ra rn rc,.slice sa sn sc,.slice fa fol.length fc].toArray 86 (0,0))::Si) aP ?_;exact fB rfl (.nil) (⟨_,rfl,hO⟩)
theorem DD (a b:Pt):HL.Fn Tryz.prog 101 [.agg (dm (a)).toArray,.agg (dm (b)).toArray] (fun _=>True) [] (fun v _=>v = .agg (dm (ib a b)).toArray):=by
 refine aW Tryz.func101 rfl rfl rfl fun w0 hw=>?_
 rw[← Hh a b]
 refine cR fun _ bI=>?_;refine cB rfl rfl rfl fun b2=>?_;refine cB rfl rfl rfl fun b3=>?_;refine aB (l:=dm bN) (by rfl) rfl fun b4=>?_;refine oZ bI (ah fun _ bJ=>?_);refine cR fun _ bK=>?_;refine oM (oZ bK (ai ?_));refine aL (fun (i:Nat)=>i≤2) (fun (i:Nat)=>[(7,.int .i64 i)]) [(2,_),(3,_),(4,_)] (fun (i:Nat)=>[(b4,.cells (dm bN).toArray 93 (0,0)),(b3,.cells (dm (b)).toArray 93 (0,0)),(b2,.cells (dm (qi a b i)).toArray 93 (0,0))]) (fun (i:Nat)=>2-i) 0 (by omega) aH aH aP ?_
 rintro i hI
 refine cR fun _ bU=>?_;refine oS (aF rfl rfl) ?_;refine oZ bU (ah fun _ bT=>?_);refine cx rfl (fun cH=>?_) (fun cH=>?_)
 ·refine ax (xZ bT (ah fun _ bZ=>?_));refine ai (cR fun _ cj=>?_);refine oM (oA (oZ cj (ah fun _ ck=>?_)));refine aK ([(b4,.cells (dm bN).toArray 93 (0,0)),(b3,.cells (dm (b)).toArray 93 (0,0)),(b2,.cells (dm (qi a b i)).toArray 93 (0,0))]) (fun i=>Nat.beq i 22||Nat.beq i 25) ?_;refine eP 0 rfl sM ?_;refine eP 1 rfl sM ?_;refine eP 2 rfl sM ?_;refine eP 3 rfl sF ?_;refine eP 4 rfl (aQ rfl rfl (by omega)) ?_;refine kd 5 rfl (by kernel_rfl) (by kernel_rfl) (by kernel_rfl) 40 (by kernel_rfl) (by kernel_rfl) (fun _ _=>rfl) rfl aP (aD rfl ((aI.aO (aI.l3 aV (r5 (i:=i) (by omega) (by omega))))) aS) ?_;refine eP 6 rfl sM ?_;refine eP 7 rfl sF ?_;refine eP 8 rfl (aQ rfl rfl (by omega)) ?_;refine kd 9 rfl (by kernel_rfl) (by kernel_rfl) (by kernel_rfl) 40 (by kernel_rfl) (by kernel_rfl) (fun _ _=>rfl) rfl aP (aD rfl ((aI.aO (aI.l3 aV (r5 (i:=i) (by omega) (by omega))))) aS) ?_;refine eP 11 rfl sM ?_;refine eP 12 rfl sF ?_;refine eP 13 rfl (aQ rfl rfl (by omega)) ?_;refine kd 14 rfl (by kernel_rfl) (by kernel_rfl) (by kernel_rfl) 40 (by kernel_rfl) (by kernel_rfl) (fun _ _=>rfl) rfl aP (aD rfl ((aI.aO (aI.l3 aV (r6 (i:=i) (by omega) (by omega))))) aS) ?_;refine eP 15 rfl sM ?_;refine eP 16 rfl sF ?_;refine eP 17 rfl (aQ rfl rfl (by omega)) ?_;refine kd 18 rfl (by kernel_rfl) (by kernel_rfl) (by kernel_rfl) 40 (by kernel_rfl) (by kernel_rfl) (fun _ _=>rfl) rfl aP (aD rfl ((aI.aO (aI.l3 aV (r6 (i:=i) (by omega) (by omega))))) aS) ?_
  refine eP 20 rfl sF ?_;refine eP 23 rfl sF (eO 10 rfl ?_);refine ar (rA (oB (qi a b i) i) (oB b i)) rfl rfl rfl (fun _ _=>trivial) (fun v20 Cr=>?_);subst Cr
  refine oX ?_;refine eP 21 rfl (aQ rfl rfl (by omega)) ?_;refine eO 19 rfl ?_;refine ar (rA (mF (qi a b i) i) (mF b i)) rfl rfl rfl (fun _ _=>trivial) (fun Rv oh=>?_);subst oh
  refine oX (eO 22 rfl ?_);refine fK (l:=_) (off:=_) rfl rfl rfl (l4 _) bY (by show _≤16;rw[rC];omega) (fun _ _=>sG) ?_
  rw[vg (i:=i) (by omega) (by omega)]
  refine ak ?_;refine cE rfl ?_;refine eP 24 rfl (aQ rfl rfl (by omega)) ?_;refine eO 25 rfl ?_;refine fK (l:=_) (off:=_) rfl rfl rfl (l4 _) bY (by show _≤16;rw[rC];omega) (fun _ _=>sG) ?_
  rw[vh (i:=i) (by omega) (by omega)]
  refine ak ?_;refine cE rfl ?_;refine eZ ck (cR fun _ cQ=>?_);refine oM (oZ cQ (ai ?_));refine aL (fun (k:Nat)=>k≤2) (fun (k:Nat)=>[(34,.int .i64 k)]) [(2,_),(3,_),(4,_),(5,_),(7,_),(8,_),(9,_),(10,_),(11,_),(12,_),(13,_),(14,_),(15,_),(16,_),(17,_),(18,_),(19,_),(20,_),(21,_),(22,_),(23,_),(24,_),(25,_),(26,_),(27,_),(28,_),(29,_),(30,_),(31,_),(32,_),(33,_)] (fun (k:Nat)=>[(b4,.cells (dm bN).toArray 93 (0,0)),(b3,.cells (dm (b)).toArray 93 (0,0)),(b2,.cells (dm (mM (OC (qi a b i) b i) b i k)).toArray 93 (0,0))]) (fun (k:Nat)=>2-k) 0 (by omega) aH aH aP ?_
  rintro k hK
  refine cR fun _ bw=>?_;refine oS (aF rfl rfl) ?_;refine oZ bw (ah fun _ bF=>?_);refine cx rfl (fun Cg=>?_) (fun Cg=>?_)
  ·refine ax (xZ bF (ah fun _ bD=>?_));refine ai (cR fun _ cb=>?_);refine oM (oA (oZ cb ?_));refine aK ([(b4,.cells (dm bN).toArray 93 (0,0)),(b3,.cells (dm (b)).toArray 93 (0,0)),(b2,.cells (dm (mM (OC (qi a b i) b i) b i k)).toArray 93 (0,0))]) (fun i=>Nat.beq i 19) ?_;refine eK 0 rfl sM ?_;refine eK 1 rfl sM ?_;refine eK 2 rfl sM ?_;refine eK 3 rfl sM ?_;refine eK 4 rfl sF ?_;refine eK 5 rfl (aQ rfl rfl (by omega)) ?_;refine eK 6 rfl (aQ rfl rfl (by omega)) ?_;refine eK 7 rfl (az rfl (.own aV (qe (i:=i) (k:=k) (by omega) (by omega) (by omega)))) ?_
   by_cases hb:jX (mM (OC (qi a b i) b i) b i k) i k=true
   ·refine eK 8 rfl (ab (v':=.bool true) (ba rfl) (by rw[hb])) ?_;refine eS 9 rfl (eS 10 rfl (eS 11 rfl (eS 12 rfl (eS 13 rfl (eS 14 rfl ?_)))));refine eK 15 rfl sT ?_;refine eP 16 rfl sF ?_;refine eP 17 rfl (aQ rfl rfl (by omega)) ?_;refine eP 18 rfl (aQ rfl rfl (by omega)) ?_;refine eO 19 rfl ?_;refine bg rfl rfl rfl bY (by rw[tF];omega) rfl ?_
    rw[qh (i:=i) (k:=k) (by omega) (by omega) (by omega)]
    first|rw[KA hb]|rw[KB (by simpa using hb)]
    refine ak ?_;refine cE rfl ?_;refine cw (by kernel_rfl) ?_;refine aq (xZ bD (ae ?_));refine oS sD (oM (ak ?_));exact xI (k+1) (by omega)
   ·refine eK 8 rfl (ab (v':=.bool false) (ba rfl) (by rw[Bool.not_eq_true] at hb;rw[hb])) ?_;refine eG 9 rfl sM ?_;refine eG 10 rfl sM ?_;refine eG 11 rfl sF ?_;refine eG 12 rfl (aQ rfl rfl (by omega)) ?_;refine eG 13 rfl (aQ rfl rfl (by omega)) ?_;refine eG 14 rfl (az rfl (.own aV (qe (i:=i) (k:=k) (by omega) (by omega) (by omega)))) ?_;refine eK 15 rfl sP ?_;refine eP 16 rfl sF ?_;refine eP 17 rfl (aQ rfl rfl (by omega)) ?_;refine eP 18 rfl (aQ rfl rfl (by omega)) ?_;refine eO 19 rfl ?_;refine bg rfl rfl rfl bY (by rw[tF];omega) rfl ?_
    rw[qh (i:=i) (k:=k) (by omega) (by omega) (by omega)]
    first|rw[KA hb]|rw[KB (by simpa using hb)]
    refine ak ?_;refine cE rfl ?_;refine cw (by kernel_rfl) ?_;refine aq (xZ bD (ae ?_));refine oS sD (oM (ak ?_));exact xI (k+1) (by omega)
  ·obtain rfl:k=2:=by omega
   refine ay ?_;refine ad (ad (ag (aq (xZ bZ (ae ?_)))));refine oS sD (oM (ak ?_));exact xI (i+1) (by omega)
 ·obtain rfl:i=2:=by omega
  refine ay ?_;refine ad (ad (ag (xZ bJ (cR fun _ bL=>?_))));refine oS (aD rfl (aI.aO (.own aV)) aS) ?_;refine bf rfl rfl bY aS aS fE ?_;refine oZ bL (aA ?_);refine ?_;exact cr rfl (.agg inferInstance inferInstance rfl (aI.aO (.own aV)) aS (.nil)) (rfl)
theorem OP (bx:Nat)(ra:Option Addr)(rc rn:Nat)(sa:Option Addr)(sc sn:Nat)(fa:Option Addr)(fc:Nat)(fol:List Sp)(Sf:Hp)(hf:aG E3 3 90 (.slice fa fol.length fc) fol Sf)(a b:Pt)(hl:fol.length≤24):HL.Fn Tryz.prog 99 [.pointer (some ⟨bx,0,none⟩),.agg (dm (a)).toArray,.agg (dm (b)).toArray] (fun _=>True) ((bx,.cells [.slice ra rn rc,.slice sa sn sc,.slice fa fol.length fc].toArray 86 (0,0))::Sf) (fun v S'=>∃ S2,HSub S' S2∧v = .agg (dm (ji a b)).toArray∧∃ Ip,S2=((bx,.cells [.slice ra rn rc,.slice sa sn sc,.slice fa (fl fol a.l0 b.f0).length fc].toArray 86 (0,0))::Ip)∧aG E3 3 90 (.slice fa (fl fol a.l0 b.f0).length fc) (fl fol a.l0 b.f0) Ip):=by
 refine aW Tryz.func99 rfl rfl rfl fun w0 hw=>?_
 rw[← Hi a b]
 refine cR fun _ bI=>?_;refine cB rfl rfl rfl fun b4=>?_;refine cB rfl rfl rfl fun b5=>?_;refine aB (l:=dm bN) (by rfl) rfl fun b6=>?_;refine oZ bI (cR fun _ bJ=>?_);refine aB (l:=dm bN) (by rfl) rfl fun b7=>?_;refine oZ bJ (cR fun _ bK=>?_);refine oM ?_;refine oS sF ?_;refine oS (aQ rfl rfl (by omega)) ?_;refine oS (aD rfl ((aI.aO (aI.l3 aV (r6 (i:=0) (by omega) (by omega))))) aS) ?_;refine oS sF ?_;refine oS (aQ rfl rfl (by omega)) ?_;refine oS (aD rfl ((aI.aO (aI.l3 aV (r5 (i:=0) (by omega) (by omega))))) aS) ?_;refine aX (Bi bx ra rc rn sa sc sn fa fc fol Sf hf (mF a 0) (oB b 0) hl) rfl rfl rfl ((aJ.bR bh bh)) (fun _ _=>trivial) (fun v17 aoc ⟨zB,Zk,afc⟩=>?_)
 subst Zk;refine oZ bK (ah fun _ bU=>?_);refine cR fun _ bT=>?_;refine oM (oZ bT (ai ?_));refine aL (fun (i:Nat)=>i≤2) (fun (i:Nat)=>[(18,.int .i64 i)]) [(4,_),(5,_),(6,_),(7,_)] (fun (i:Nat)=>[(b7,.cells (dm (m6 a b i)).toArray 93 (0,0)),(b6,.cells (dm bN).toArray 93 (0,0)),(b5,.cells (dm (b)).toArray 93 (0,0)),(b4,.cells (dm (a)).toArray 93 (0,0))]++((bx,.cells [.slice ra rn rc,.slice sa sn sc,.slice fa (fl fol a.l0 b.f0).length fc].toArray 86 (0,0))::zB)) (fun (i:Nat)=>2-i) 0 (by omega) aH aH aP ?_
 rintro i hI
 refine cR fun _ bZ=>?_;refine oS (aF rfl rfl) ?_;refine oZ bZ (ah fun _ cj=>?_);refine cx rfl (fun cH=>?_) (fun cH=>?_)
 ·refine ax (xZ cj (ah fun _ ck=>?_));refine ai (cR fun _ cQ=>?_);refine oM (oA (oZ cQ (ah fun _ bw=>?_)));refine aK ([(b5,.cells (dm (b)).toArray 93 (0,0)),(b4,.cells (dm (a)).toArray 93 (0,0))]) (fun i=>false) ?_;refine eK 0 rfl sM ?_;refine eK 1 rfl sM ?_;refine eK 2 rfl sM ?_;refine eK 3 rfl sF ?_;refine eK 4 rfl (aQ rfl rfl (by omega)) ?_;refine eK 5 rfl (aD rfl ((aI.aO (aI.l3 aV (r5 (i:=i) (by omega) (by omega))))) aS) ?_;refine eK 6 rfl sM ?_;refine eK 7 rfl sF ?_;refine eK 8 rfl (aQ rfl rfl (by omega)) ?_;refine eK 9 rfl (aD rfl ((aI.aO (aI.l3 aV (r6 (i:=i) (by omega) (by omega))))) aS) ?_;refine eP 10 rfl sF ?_;refine eP 13 rfl sF ?_;refine eP 11 rfl (aQ rfl rfl (by omega)) ?_;refine eO 12 rfl ?_;refine fK (l:=_) (off:=_) rfl rfl rfl (l4 _) bY (by show _≤16;rw[rC];omega) (fun _ _=>sG) ?_
  rw[vg (i:=i) (by omega) (by omega)]
  refine oX ?_;refine eP 14 rfl (aQ rfl rfl (by omega)) ?_;refine eO 15 rfl ?_;refine fK (l:=_) (off:=_) rfl rfl rfl (l4 _) bY (by show _≤16;rw[rC];omega) (fun _ _=>sG) ?_
  rw[vh (i:=i) (by omega) (by omega)]
  rw[OD]
  refine oX (eZ bw ?_);refine fU (ι:=Unit) (fun _g=>True) (fun _g=>[]) [(4,_),(5,_),(6,_),(7,_),(8,_),(18,_),(19,_),(20,_),(21,_),(22,_),(23,_),(24,_),(25,_),(26,_),(27,_),(28,_),(29,_),(30,_),(31,_),(32,_),(33,_),(34,_)] (fun _g=>[(b7,.cells (dm ((vi (wM (m6 a b i) a b i) a b i))).toArray 93 (0,0)),(b6,.cells (dm bN).toArray 93 (0,0)),(b5,.cells (dm (b)).toArray 93 (0,0)),(b4,.cells (dm (a)).toArray 93 (0,0))]++((bx,.cells [.slice ra rn rc,.slice sa sn sc,.slice fa (fl fol a.l0 b.f0).length fc].toArray 86 (0,0))::zB)) aH ?_ ?_
  ·rintro _g _
   refine fU (ι:=Unit) (fun _g=>True) (fun _g=>[]) [(4,_),(5,_),(6,_),(7,_),(8,_),(18,_),(19,_),(20,_),(21,_),(22,_),(23,_),(24,_),(25,_),(26,_),(27,_),(28,_),(29,_),(30,_),(31,_),(32,_),(33,_),(34,_)] (fun _g=>[(b7,.cells (dm ((A2 (vi (wM (m6 a b i) a b i) a b i) a b i))).toArray 93 (0,0)),(b6,.cells (dm bN).toArray 93 (0,0)),(b5,.cells (dm (b)).toArray 93 (0,0)),(b4,.cells (dm (a)).toArray 93 (0,0))]++((bx,.cells [.slice ra rn rc,.slice sa sn sc,.slice fa (fl fol a.l0 b.f0).length fc].toArray 86 (0,0))::zB)) aH ?_ ?_
   ·rintro _g _
    refine cR fun _ cb=>?_;refine oM (oZ cb (ai ?_));refine aL (fun (k:Nat)=>k≤2) (fun (k:Nat)=>[(69,.int .i64 k)]) [(4,_),(5,_),(6,_),(7,_),(8,_),(18,_),(19,_),(20,_),(21,_),(22,_),(23,_),(24,_),(25,_),(26,_),(27,_),(28,_),(29,_),(30,_),(31,_),(32,_),(33,_),(34,_)] (fun (k:Nat)=>[(b7,.cells (dm (vj (A2 (vi (wM (m6 a b i) a b i) a b i) a b i) a b i k)).toArray 93 (0,0)),(b6,.cells (dm bN).toArray 93 (0,0)),(b5,.cells (dm (b)).toArray 93 (0,0)),(b4,.cells (dm (a)).toArray 93 (0,0))]++((bx,.cells [.slice ra rn rc,.slice sa sn sc,.slice fa (fl fol a.l0 b.f0).length fc].toArray 86 (0,0))::zB)) (fun (k:Nat)=>2-k) 0 (by omega) aH aH aP ?_
    rintro k hK
    refine cR fun _ bL=>?_;refine oS (aF rfl rfl) ?_;refine oZ bL (ah fun _ bQ=>?_);refine cx rfl (fun Cg=>?_) (fun Cg=>?_)
    ·refine ax (xZ bQ (ah fun _ cO=>?_));refine ai (cR fun _ df=>?_);refine oM (oA (oZ df ?_));refine aK ([(b7,.cells (dm (vj (A2 (vi (wM (m6 a b i) a b i) a b i) a b i) a b i k)).toArray 93 (0,0)),(b6,.cells (dm bN).toArray 93 (0,0)),(b5,.cells (dm (b)).toArray 93 (0,0)),(b4,.cells (dm (a)).toArray 93 (0,0))]) (fun i=>Nat.beq i 19) ?_;refine eK 0 rfl sM ?_;refine eK 1 rfl sM ?_;refine eK 2 rfl sM ?_;refine eK 3 rfl sM ?_;refine eK 4 rfl sF ?_;refine eK 5 rfl (aQ rfl rfl (by omega)) ?_;refine eK 6 rfl (aQ rfl rfl (by omega)) ?_;refine eK 7 rfl (az rfl (.own aV (qe (i:=i) (k:=k) (by omega) (by omega) (by omega)))) ?_
     by_cases hb:jX a i k=true
     ·refine eK 8 rfl (ab (v':=.bool true) (ba rfl) (by rw[hb])) ?_;refine eG 9 rfl sM ?_;refine eG 10 rfl sM ?_;refine eG 11 rfl sF ?_;refine eG 12 rfl (aQ rfl rfl (by omega)) ?_;refine eG 13 rfl (aQ rfl rfl (by omega)) ?_;refine eG 14 rfl (az rfl (.own aV (qe (i:=i) (k:=k) (by omega) (by omega) (by omega)))) ?_;refine eK 15 rfl sT ?_;refine eP 16 rfl sF ?_;refine eP 17 rfl (aQ rfl rfl (by omega)) ?_;refine eP 18 rfl (aQ rfl rfl (by omega)) ?_;refine eO 19 rfl ?_;refine bg rfl rfl rfl bY (by rw[tF];omega) rfl ?_
      rw[qh (i:=i) (k:=k) (by omega) (by omega) (by omega)]
      first|rw[KC hb]|rw[KD (by simpa using hb)]
      refine ak ?_;refine cE rfl ?_;refine cw (by kernel_rfl) ?_;refine aq (xZ cO (ae ?_));refine oS sD (oM (ak ?_));exact xI (k+1) (by omega)
     ·refine eK 8 rfl (ab (v':=.bool false) (ba rfl) (by rw[Bool.not_eq_true] at hb;rw[hb])) ?_;refine eS 9 rfl (eS 10 rfl (eS 11 rfl (eS 12 rfl (eS 13 rfl (eS 14 rfl ?_)))));refine eK 15 rfl sP ?_;refine eP 16 rfl sF ?_;refine eP 17 rfl (aQ rfl rfl (by omega)) ?_;refine eP 18 rfl (aQ rfl rfl (by omega)) ?_;refine eO 19 rfl ?_;refine bg rfl rfl rfl bY (by rw[tF];omega) rfl ?_
      rw[qh (i:=i) (k:=k) (by omega) (by omega) (by omega)]
      first|rw[KC hb]|rw[KD (by simpa using hb)]
      refine ak ?_;refine cE rfl ?_;refine cw (by kernel_rfl) ?_;refine aq (xZ cO (ae ?_));refine oS sD (oM (ak ?_));exact xI (k+1) (by omega)
    ·obtain rfl:k=2:=by omega
     refine ay ?_;refine ad (ad (ag (aq (xZ ck (ae ?_)))));refine oS sD (oM (ak ?_));exact xI (i+1) (by omega)
   ·intro _ Zl
    refine cR fun _ cZ=>?_;refine oM ?_;refine oS sF ?_;refine oS (aQ rfl rfl (by omega)) ?_;refine oS (aQ rfl rfl (by omega)) ?_
    by_cases Qv:jX b 0 i=true
    ·refine oS (ab (v':=.bool true) (az rfl (.own aV (qe (i:=0) (k:=i) (by omega) (by omega) (by omega)))) (by rw[Qv])) ?_;refine oZ cZ ?_;refine cT ?_;refine aK ([(b7,.cells (dm ((vi (wM (m6 a b i) a b i) a b i))).toArray 93 (0,0)),(b6,.cells (dm bN).toArray 93 (0,0)),(b5,.cells (dm (b)).toArray 93 (0,0)),(b4,.cells (dm (a)).toArray 93 (0,0))]) (fun i=>Nat.beq i 12) ?_;refine eK 0 rfl sM ?_;refine eK 1 rfl sM ?_;refine eK 2 rfl sF ?_;refine eK 3 rfl (aQ rfl rfl (by omega)) ?_;refine eK 4 rfl (aD rfl ((aI.aO (aI.l3 aV (r6 (i:=i) (by omega) (by omega))))) aS) ?_;refine eK 5 rfl sM ?_;refine eK 6 rfl sF ?_;refine eK 7 rfl (aQ rfl rfl (by omega)) ?_;refine eK 8 rfl (aD rfl ((aI.aO (aI.l3 aV (r6 (i:=i) (by omega) (by omega))))) aS) ?_;refine eP 10 rfl sF (eO 9 rfl ?_);refine ar (rA (mF (vi (wM (m6 a b i) a b i) a b i) i) (mF a i)) rfl rfl rfl (fun _ _=>trivial) (fun v66 Uh=>?_);subst Uh
     refine oX ?_;refine eP 11 rfl (aQ rfl rfl (by omega)) ?_;refine eO 12 rfl ?_;refine fK (l:=_) (off:=_) rfl rfl rfl (l4 _) bY (by show _≤16;rw[rC];omega) (fun _ _=>sG) ?_
     rw[vh (i:=i) (by omega) (by omega)]
     rw[TH Qv]
     refine ak ?_;refine cE rfl ?_;refine cw (by kernel_rfl) ?_;exact av (Zl () _ _ trivial aH aH aP)
    ·refine oS (ab (v':=.bool false) (az rfl (.own aV (qe (i:=0) (k:=i) (by omega) (by omega) (by omega)))) (by rw[eq_false_of_ne_true Qv])) ?_;refine oZ cZ ?_;refine cF (ax ?_);exact av (Zl () _ _ trivial aH aH (by rw[TJ Qv];exact aP))
  ·intro _ Zm
   refine cR fun _ dq=>?_;refine oM ?_;refine oS sF ?_;refine oS (aQ rfl rfl (by omega)) ?_;refine oS (aQ rfl rfl (by omega)) ?_
   by_cases Qu:jX a i 0=true
   ·refine oS (ab (v':=.bool true) (az rfl (.own aV (qe (i:=i) (k:=0) (by omega) (by omega) (by omega)))) (by rw[Qu])) ?_;refine oZ dq ?_;refine cT ?_;refine aK ([(b7,.cells (dm ((wM (m6 a b i) a b i))).toArray 93 (0,0)),(b6,.cells (dm bN).toArray 93 (0,0)),(b5,.cells (dm (b)).toArray 93 (0,0)),(b4,.cells (dm (a)).toArray 93 (0,0))]) (fun i=>Nat.beq i 12) ?_;refine eK 0 rfl sM ?_;refine eK 1 rfl sM ?_;refine eK 2 rfl sF ?_;refine eK 3 rfl (aQ rfl rfl (by omega)) ?_;refine eK 4 rfl (aD rfl ((aI.aO (aI.l3 aV (r5 (i:=i) (by omega) (by omega))))) aS) ?_;refine eK 5 rfl sM ?_;refine eK 6 rfl sF ?_;refine eK 7 rfl (aQ rfl rfl (by omega)) ?_;refine eK 8 rfl (aD rfl ((aI.aO (aI.l3 aV (r5 (i:=i) (by omega) (by omega))))) aS) ?_;refine eP 10 rfl sF (eO 9 rfl ?_);refine ar (rA (oB (wM (m6 a b i) a b i) i) (oB b i)) rfl rfl rfl (fun _ _=>trivial) (fun v49 RE=>?_);subst RE
    refine oX ?_;refine eP 11 rfl (aQ rfl rfl (by omega)) ?_;refine eO 12 rfl ?_;refine fK (l:=_) (off:=_) rfl rfl rfl (l4 _) bY (by show _≤16;rw[rC];omega) (fun _ _=>sG) ?_
    rw[vg (i:=i) (by omega) (by omega)]
    rw[TE Qu]
    refine ak ?_;refine cE rfl ?_;refine cw (by kernel_rfl) ?_;exact av (Zm () _ _ trivial aH aH aP)
   ·refine oS (ab (v':=.bool false) (az rfl (.own aV (qe (i:=i) (k:=0) (by omega) (by omega) (by omega)))) (by rw[eq_false_of_ne_true Qu])) ?_;refine oZ dq ?_;refine cF (ax ?_);exact av (Zm () _ _ trivial aH aH (by rw[TF Qu];exact aP))
 ·obtain rfl:i=2:=by omega
  refine ay ?_;refine ad (ad (ag (xZ bU (cR fun _ dG=>?_))));refine oS (aD rfl (aI.aO (.own aV)) aS) ?_;refine bf rfl rfl bY aS aS fE ?_;refine oZ dG (aA ?_);refine ?_;exact cr rfl (.agg inferInstance inferInstance rfl (aI.aO (.own aV)) aS (.nil)) (⟨(bx,.cells [.slice ra rn rc,.slice sa sn sc,.slice fa (fl fol a.l0 b.f0).length fc].toArray 86 (0,0))::zB,by exact aP,rfl,zB,rfl,afc⟩)
theorem Ui (bx:Nat)(ra:Option Addr)(rc rn:Nat)(sa:Option Addr)(sc sn:Nat)(fa:Option Addr)(fc:Nat)(fol:List Sp)(Sf:Hp)(hf:aG E3 3 90 (.slice fa fol.length fc) fol Sf)(a b:Pt)(hl:fol.length≤24):HL.Fn Tryz.prog 99 [.pointer (some ⟨bx,0,none⟩),.agg (dm (a)).toArray,.agg (dm (b)).toArray] (fun _=>True) ((bx,.cells [.slice ra rn rc,.slice sa sn sc,.slice fa fol.length fc].toArray 86 (0,0))::Sf) (fun v S'=>v = .agg (dm (ji a b)).toArray∧∃ Ip,S'=((bx,.cells [.slice ra rn rc,.slice sa sn sc,.slice fa (fl fol a.l0 b.f0).length fc].toArray 86 (0,0))::Ip)∧aG E3 3 90 (.slice fa (fl fol a.l0 b.f0).length fc) (fl fol a.l0 b.f0) Ip):=
 HL.Fn.sub (OP bx ra rc rn sa sc sn fa fc fol Sf hf a b hl) fun v S' ⟨S2,h1,h2⟩=>⟨S2,h1,h2⟩
end Go.Proofs.YtmompllplidphaaGreatDoor
namespace Go.HL.Kl.Mc
open Go Go.HL Go.HL.Kl
theorem m3:∀ (f g:F)(r s:List Nd),f.wf→g.wf→f.num=g.num→f.flat++r=g.flat++s→f=g∧r=s
 | .nil,.nil,r,s,_,_,_,h=>⟨rfl,h⟩
 | .nil,.nd _ _ _,_,_,_,_,hn,_=>by simp[F.num] at hn
 | .nd _ _ _,.nil,_,_,_,_,hn,_=>by simp[F.num] at hn
 | .nd x ks f,.nd y js g,r,s,hf,hg,hn,h=>by
   simp only[F.flat,List.cons_append,List.append_assoc,List.cons.injEq] at h
   obtain⟨rfl,h⟩:=h
   have hk:ks.num=js.num:=by have:=hf.2.1;have:=hg.2.1;omega
   obtain⟨e1,h1⟩:=m3 ks js _ _ hf.2.2.1 hg.2.2.1 hk h
   obtain⟨e2,h2⟩:=m3 f g _ _ hf.2.2.2 hg.2.2.2 (by simpa [F.num] using hn) h1
   exact⟨by rw[e1,e2],h2⟩
def Ud (re:List Nd):Prop:=(∃ en,iD re 260 0 [] 0=some (re.length,en))∧∃ x ks,iR re x ks
noncomputable def bz (re:List Nd):Bool:=@decide (Ud re) (Classical.propDecidable _)
theorem gm {re:List Nd}:bz re=true↔Ud re:=by
 unfold bz
 constructor
 · intro h;exact @of_decide_eq_true _ (Classical.propDecidable _) h
 · intro h;exact @decide_eq_true _ (Classical.propDecidable _) h
theorem oD {re:List Nd}(h:¬ Ud re):bz re=false:=Bool.eq_false_iff.2 fun h'=>h (gm.1 h')
theorem Bf {re:List Nd}(h:iD re 260 0 [] 0=none):bz re=false:=oD fun⟨⟨en,h'⟩,_⟩=>by rw[h] at h';cases h'
theorem FC {re:List Nd}{j:Nat}{en:List Bool}(h:iD re 260 0 [] 0=some (j,en))(hj:j≠re.length):bz re=false:=oD fun⟨⟨m5,h'⟩,_⟩=>by
 rw[h] at h';cases h';exact hj rfl
theorem Bg {re:List Nd}{en:List Bool}(h:iD re 260 0 [] 0=some (re.length,en)):∃ x ks,Part re (.nd x ks .nil) 0 re.length∧ks.depth+1≤260∧bz re=decide (cut (F.nd x ks .nil).weight≤16384):=by
 obtain⟨x,ks,ht⟩:=vd _ _ _ _ _ _ h
 have hp:=ht.part
 have QL:re=x::ks.flat:=by simpa using ht.flat
 refine⟨x,ks,hp,ht.dep,?_⟩
 by_cases hw:(F.nd x ks .nil).weight≤16384
 · rw[decide_eq_true (by unfold cut;omega)]
   exact gm.2 ⟨⟨en,h⟩,x,ks,⟨ht.wf,QL,ht.dep,hw⟩⟩
 · rw[decide_eq_false (by unfold cut;omega)]
   refine oD fun⟨_,y,js,hs⟩=>hw ?_
   have:=m3 (.nd x ks .nil) (.nd y js .nil) [] [] ht.wf hs.wf rfl (by simp only[F.flat,List.append_nil];rw[← QL,← hs.flat])
   rw[this.1];exact hs.weight
noncomputable def ez (re:List Nd):Bool:=bz re&&re.any fun x=>x.op==8
theorem pZ {re:List Nd}{x:Nd}(hs:bz re=true)(hx:x∈re)(h8:x.op=8):ez re=true:=by
 rw[ez,hs,Bool.true_and,List.any_eq_true]
 exact⟨x,hx,by simp[h8]⟩
theorem Fs {re:List Nd}(h:∀ j (x:Nd),j<re.length→re[j]?=some x→¬ x.op=8):ez re=false:=by
 have:(re.any fun x=>x.op==8)=false:=by
   rw[Bool.eq_false_iff]
   intro h'
   obtain⟨x,hx,h8⟩:=List.any_eq_true.1 h'
   obtain⟨j,hj⟩:=List.getElem?_of_mem hx
   exact h j x (List.getElem?_eq_some_iff.1 hj).1 hj (by simpa using h8)
 rw[ez,this,Bool.and_false]
theorem xF {re:List Nd}{j:Nat}{x:Nd}(h:∀ q (x:Nd),q<j→re[q]?=some x→¬ x.op=8)(hx:re[j]?=some x)(h8:¬ x.op=8):∀ q (x:Nd),q<j+1→re[q]?=some x→¬ x.op=8:=by
 intro q y hq hy
 by_cases e:q=j
 · subst e;rw[hx] at hy;cases hy;exact h8
 · exact h q y (by omega) hy
theorem A1 {re:List Nd}(h:bz re=false):ez re=false:=by rw[ez,h,Bool.false_and]
theorem vw {t a:Nat}(ht:1≤t):min (1+(t:Int)*(cut a:Int)) 16385=(cut (1+t*a):Nat):=by
 rw[← tD ht,Int.mul_comm,Int.add_comm]
def jo (n:Nat):List Value:=[.int .i64 n]
instance:eB jo 1:=⟨fun _=>rfl,fun _ _ h=>by simp[jo] at h;subst h;rfl⟩
def TO (re:List Nd)(a:Nat)(l:List Nat):Prop:=l.length=re.length∧∀ (i:Nat)(x:Nd)(ks r:F)(i':Nat),a≤i→Part re (.nd x ks r) i i'→l[i]?=some (i+1+ks.size)
theorem Part.uniq {re:List Nd}{x y:Nd}{ks js r s:F}{i i' i2:Nat}(h:Part re (.nd x ks r) i i')(h':Part re (.nd y js s) i i2):ks=js:=by
 have h1:=h.one;have h2:=h'.one
 have:=m3 (.nd x ks .nil) (.nd y js .nil) _ _ h1.wf h2.wf rfl (h1.flat.symm.trans h2.flat)
 have:=this.1
 simp at this
 exact this.2
def acr (x:Nd)(ks:F)(b:Nat):List In:=XN x (fun b=>code ks false b 0) (fun b=>code ks true b (b+u6 ks true)) (u6 ks false) b
def OV (x:Nd)(ks:F):Nat:=C8 x (u6 ks false) (u6 ks true)
def agY:F→Nat→List Nat
 | .nil,_=>[]
 | .nd x ks r,b=>match r with
   | .nil=>[]
   | _=>(b+1+OV x ks)::agY r (b+OV x ks+2)
def patch (l:List In)(ps:List Nat)(e:Nat):List In:=ps.foldl (fun l p=>l.set p ⟨4,0,e,0⟩) l
section
variable {x:Nd}{ks:F}{b:Nat}
end
def IsJ (l:List In)(p:Nat):Prop:=∃ v:Int,l[p]?=some ⟨4,0,v,0⟩
end Go.HL.Kl.Mc
namespace Go.HL.Kl.Mc
open Go Go.HL Go.HL.Kl
theorem F.fe:∀ f:F,f.size≤f.weight
 | .nil=>Nat.le_refl _
 | .nd x ks r=>by
   have h1:=F.fe ks
   have h2:=F.fe r
   have h3:ks.weight≤times x*ks.weight:=Nat.le_mul_of_pos_left _ (iw x)
   simp only[F.size,F.weight];omega
theorem iR.len {re:List Nd}{x:Nd}{ks:F}(h:iR re x ks):re.length≤16384:=by
 have h1:=F.fe (.nd x ks .nil)
 have:=h.weight
 rw[h.flat]
 simp only[F.size] at h1
 simp only[List.length_cons,F.jn]
 omega
theorem iR.part {re:List Nd}{x:Nd}{ks:F}(h:iR re x ks):Part re (.nd x ks .nil) 0 re.length:=by
 refine⟨h.wf,by rw[List.drop_length,List.drop_zero,List.append_nil];simp[F.flat,h.flat],?_,Nat.le_refl _⟩
 rw[h.flat];simp[F.size,F.jn]
inductive ajV (re:List Nd)(v:Value)(S':Hp):Prop
 | shape (hs:bz re=false)(hv:v = .tuple #[.slice none 0 0,.int .i64 49])
 | ref (hs:bz re=true)(hr:ez re=true)(hv:v = .tuple #[.slice none 0 0,.int .i64 44])
 | ok {x:Nd}{ks:F}{a:Option Addr}(hs:bz re=true)(hr:ez re=false)(h:iR re x ks)(hv:v = .tuple #[.slice a (nM (.nd x ks .nil)).length (nM (.nd x ks .nil)).length,.int .i64 0])(hm:lG Ql (.slice a (nM (.nd x ks .nil)).length (nM (.nd x ks .nil)).length) (nM (.nd x ks .nil)) S')
inductive ajW (T:Nat)(re:List Nd)(v:Value)(S':Hp):Prop
 | shape (hs:bz re=false)(hv:v = .tuple #[.slice none 0 0,.int .i64 49])(hn:S' = [])
 | ref (hs:bz re=true)(hr:ez re=true)(hv:v = .tuple #[.slice none 0 0,.int .i64 44])(hn:S' = [])
 | ok {x:Nd}{ks:F}{a:Option Addr}(hs:bz re=true)(hr:ez re=false)(h:iR re x ks)(hv:v = .tuple #[.slice a (nM (.nd x ks .nil)).length (nM (.nd x ks .nil)).length,.int .i64 0])(hm:aG Ql 7 T (.slice a (nM (.nd x ks .nil)).length (nM (.nd x ks .nil)).length) (nM (.nd x ks .nil)) S')
end Go.HL.Kl.Mc
namespace Go.HL.cm
open Go Go.HL Go.HL.Kl Go.HL.Kl.Mc
theorem jv (f:Pt→Mk):∀ (n:Nat)(c:Pt)(x:fk),iterM f (n+1) c x=f (iterM f n c x).1 (iterM f n c x).2
 | 0,c,x=>rfl
 | n+1,c,x=>by rw[iterM,jv f n];rfl
theorem qR {n:Nd}{ks:F}(h:n.op=1)(x:fk):aZ n ks x=mN n.set x:=by simp[aZ,lO,h]
theorem mO {n:Nd}{ks:F}(h:n.op=2)(x:fk):aZ n ks x=({ bN with n10:=true,n11:=true },x):=by simp[aZ,lO,h]
theorem qS {n:Nd}{ks:F}(h:n.op=3)(x:fk):aZ n ks x=({ bN with n01:=true,n11:=true },x):=by simp[aZ,lO,h]
theorem qT {n:Nd}{ks:F}(h:n.op=4)(x:fk):aZ n ks x=dx ks false bu x:=by simp[aZ,lO,h]
theorem qU {n:Nd}{ks:F}(h:n.op=5)(x:fk):aZ n ks x=dx ks true bN x:=by simp[aZ,lO,h]
theorem qV {n:Nd}{y:Nd}{js:F}(h:n.op=6)(x:fk):aZ n (.nd y js .nil) x=py (aZ y js) n.mn n.mx x:=by
 rw[← pC y js];show lO n _ x=_;simp[lO,h]
theorem mP {n:Nd}{y:Nd}{js:F}(h:n.op=7)(x:fk):aZ n (.nd y js .nil) x=aZ y js x:=by
 rw[← pC y js];show lO n _ x=_;simp[lO,h]
theorem xf {n:Nd}{ks:F}(h1:¬ n.op=1)(h2:¬ n.op=2)(h3:¬ n.op=3)(h4:¬ n.op=4)(h5:¬ n.op=5)(h6:¬ n.op=6)(h7:¬ n.op=7)(x:fk):aZ n ks x=(bN,x):=by simp[aZ,lO,h1,h2,h3,h4,h5,h6,h7]
theorem qW (n:Nd)(ks r:F)(c:Pt)(x:fk):dx (.nd n ks r) false c x=dx r false (cU c (aZ n ks) x).1 (cU c (aZ n ks) x).2:=by
 simp[dx,cU,aZ]
theorem qX (n:Nd)(ks r:F)(c:Pt)(x:fk):dx (.nd n ks r) true c x=dx r true (ib c (aZ n ks x).1) (aZ n ks x).2:=by
 simp[dx,aZ]
theorem s7 (n:Nd)(ks r:F):gB (.nd n ks r)=eM n ks+gB r:=rfl
theorem np {n:Nd}{ks:F}(h:n.op=4∨n.op=5∨n.op=7):eM n ks=gB ks:=by
 unfold eM
 rw[if_neg (by omega),if_neg (by omega),if_pos h]
theorem An {n:Nd}{ks:F}(h:n.op=6):eM n ks=pz n*gB ks:=by
 unfold eM
 rw[if_neg (by omega),if_pos h]
theorem Am {n:Nd}{ks:F}(h:n.op=1):eM n ks=1:=by simp[eM,h]
theorem j0 (y:Nd)(js:F):gB (.nd y js .nil)=eM y js:=by rw[s7];rfl
theorem eN {n:Nd}{ks:F}(hw:(F.nd n ks .nil).wf)(h:n.op=6∨n.op=7):∃ y js,ks = .nd y js .nil:=by
 have hk:=hw.1
 simp only[eH,Bool.and_eq_true,gi] at hk
 rw[if_pos h] at hk
 have h1:n.kids=1:=by simpa using hk.2
 have h2:=hw.2.1
 rw[h1] at h2
 match ks with
 | .nil=>simp[F.num] at h2
 | .nd y js .nil=>exact⟨y,js,rfl⟩
 | .nd y js (.nd _ _ _)=>simp only[F.num] at h2;omega
theorem Qc {n:Nd}:∀ (j:Nat) u,(Ec n.set)[j]?=some u→(En n)[1+j]?=some u:=yH
theorem Gt:bP (dm bN) 2 [.bool true,.bool true]=dm { bN with n10:=true,n11:=true }:=rfl
theorem NP:((dm bN).set 1 (.bool true)).set 3 (.bool true)=dm { bN with n01:=true,n11:=true }:=rfl
theorem Jb (s:Sp):bP (bP (dm bN) 4 (E3 s++E3 s)) 10 (E3 s++E3 s)=dm ⟨false,false,false,false,s,s,s,s⟩:=rfl
theorem Jc {m:Mk}{n:Nat}(h:gj m n)(x:fk)(hx:x.fol.length=x.sets.length)(k:Nat):(iterM (fun c=>cU c m) k bu x).2.sets.length=x.sets.length+k*n∧(iterM (fun c=>cU c m) k bu x).2.fol.length=(iterM (fun c=>cU c m) k bu x).2.sets.length:=
 gj.iter (f:=fun c=>cU c m) (fun c=>h.cat c) k bu x hx
def fb (K:Mk):Pt→Mk:=fun more y=>(ib bu (jS K more y).1,(jS K more y).2)
theorem Jd {m:Mk}{n:Nat}(h:gj m n)(x:fk)(hx:x.fol.length=x.sets.length)(k:Nat):(iterM (fb m) k bu x).2.sets.length=x.sets.length+k*n∧(iterM (fb m) k bu x).2.fol.length=(iterM (fb m) k bu x).2.sets.length:=
 gj.iter (f:=fb m) (fun c=>fun y hy=>h.jS c y hy) k bu x hx
theorem pA {K:Mk}{mn mx:Int}(h:mx<0)(x:fk):py K mn mx x=(ji (iterM (fun c=>cU c K) mn.toNat bu x).1 (ib bu (K (iterM (fun c=>cU c K) mn.toNat bu x).2).1),((K (iterM (fun c=>cU c K) mn.toNat bu x).2).2.join (K (iterM (fun c=>cU c K) mn.toNat bu x).2).1.l0 (K (iterM (fun c=>cU c K) mn.toNat bu x).2).1.f0).join (iterM (fun c=>cU c K) mn.toNat bu x).1.l0 (ib bu (K (iterM (fun c=>cU c K) mn.toNat bu x).2).1).f0):=by
 unfold py
 simp only[h,if_true]
theorem pB {K:Mk}{mn mx:Int}(h:¬ mx<0)(x:fk):py K mn mx x=(ji (iterM (fun c=>cU c K) mn.toNat bu x).1 (iterM (fb K) (mx-mn).toNat bu (iterM (fun c=>cU c K) mn.toNat bu x).2).1,(iterM (fb K) (mx-mn).toNat bu (iterM (fun c=>cU c K) mn.toNat bu x).2).2.join (iterM (fun c=>cU c K) mn.toNat bu x).1.l0 (iterM (fb K) (mx-mn).toNat bu (iterM (fun c=>cU c K) mn.toNat bu x).2).1.f0):=by
 unfold py
 simp only[h,if_false]
 rfl
theorem RM {a b n:Nat}(h:a<b):a*n+n≤b*n:=by
 have:(a+1)*n≤b*n:=Nat.mul_le_mul_right n h
 rwa [Nat.succ_mul] at this
end Go.HL.cm
namespace Go.Proofs.YtmompllplidphaaGreatDoor
open Go Go.HL Go.Proofs Go.HL.Kl Go.HL.Kl.Mc
set_option maxHeartbeats 2000000 in
theorem xw (f:Nat)(ih:∀ f1,f=f1+1→Fb Tryz.prog 94 149 f1)(bx:Nat)(ra:Option Addr)(rc:Nat)(re:List Nd)(i wi gr:Nat)(ea:Option Addr)(ec:Nat)(en:List Bool)(Se:Hp)(ey:∀ x∈re,-128≤x.op∧x.op<128)(hwi:wi+f=260)(hi:i≤re.length)(kH:en.length≤255)(hg:gr≤64)(hO:aG fR 1 4 (.slice ea en.length ec) en Se):HL.Fn Tryz.prog 94 [.pointer (some ⟨bx,0,none⟩),.int .i64 wi,.int .i64 gr] (fun w=>Rd En w (.slice ra re.length rc) re∧ew (keys ((bx,.cells [.slice ra re.length rc,.int .i64 i,.slice ea en.length ec].toArray 149 (0,0))::Se)) (.slice ra re.length rc)) ((bx,.cells [.slice ra re.length rc,.int .i64 i,.slice ea en.length ec].toArray 149 (0,0))::Se) (JW 149 bx ra rc re (iD re f i en gr)):=by
 refine aW Tryz.func94 rfl rfl rfl fun w0 hw=>?_
 have dr:=hw.1.sl
 have s3:=dr.le
 have gu:=hO.sl
 refine cR fun _ bI=>?_;refine oA (oZ bI (ah fun _ bJ=>?_));refine ah fun _ bK=>?_;refine aK ((bx,.cells [.slice ra re.length rc,.int .i64 i,.slice ea en.length ec].toArray 149 (0,0))::Se) (fun i=>false) ?_;refine eK 0 rfl sM ?_;refine eK 1 rfl sN ?_;refine eK 2 rfl sF ?_;refine eK 3 rfl sL ?_;refine eK 4 rfl sM ?_;refine eK 5 rfl sN ?_;refine eK 6 rfl sF ?_;refine eK 7 rfl sL ?_;refine eK 8 rfl sC ?_
 by_cases RP:i=re.length
 ·have hN:iD re f i en gr=none:=Fc (by omega)
  refine eK 9 rfl ij ?_;refine eK 10 rfl sM ?_;refine eS 11 rfl (eS 12 rfl ?_);refine eK 13 rfl sT ?_;refine eK 14 rfl sM ?_;refine eS 15 rfl (eS 16 rfl (eS 17 rfl (eS 18 rfl (eS 19 rfl (eS 20 rfl (eS 21 rfl (eS 22 rfl (eS 23 rfl (eS 24 rfl (eO 25 rfl ?_))))))))));refine oN (oX ?_);refine eS 26 rfl ?_;refine eK 27 rfl sT (eZ bK ?_);refine cT (cR fun _ bU=>?_);refine oA (oZ bU ?_)
  refine aA ?_;refine aj (?_);exact xR rfl rfl ((by rw[hN];rfl))
 ·refine eK 9 rfl ik ?_;refine eK 10 rfl sM ?_;refine eG 11 rfl sM ?_
  by_cases hf:(wi:Int)>259
  ·obtain rfl:f=0:=by omega
   have hN:iD re 0 i en gr=none:=rfl
   refine eG 12 rfl Gp ?_;refine eK 13 rfl sP ?_;refine eK 14 rfl sM ?_;refine eS 15 rfl (eS 16 rfl (eS 17 rfl (eS 18 rfl (eS 19 rfl (eS 20 rfl (eS 21 rfl (eS 22 rfl (eS 23 rfl (eS 24 rfl (eO 25 rfl ?_))))))))));refine oN (oX ?_);refine eS 26 rfl ?_;refine eK 27 rfl sT (eZ bK ?_);refine cT (cR fun _ bT=>?_);refine oA (oZ bT (aA ?_));refine aj (?_);exact xR rfl rfl ((by rw[hN];rfl))
  ·obtain⟨f1,rfl⟩:∃ f1,f=f1+1:=⟨f-1,by omega⟩
   obtain⟨x,hx⟩:∃ x,re[i]?=some x:=⟨_,List.getElem?_eq_getElem (show i<re.length by omega)⟩
   refine eG 12 rfl Gq ?_;refine eK 13 rfl sP ?_;refine eK 14 rfl sM ?_;refine eG 15 rfl sM ?_;refine eG 16 rfl sN ?_;refine eG 17 rfl sF ?_;refine eG 18 rfl sL ?_;refine eG 19 rfl sM ?_;refine eG 20 rfl sN ?_;refine eG 21 rfl sF ?_;refine eG 22 rfl sL ?_;refine eG 23 rfl (au rfl rfl dr (by omega)) ?_;refine eG 24 rfl (aD rfl ((cq.old hw.1 hw.2).gx i hx rfl) (by rfl)) ?_;refine eO 25 rfl ?_;refine oY ?_;refine ar (N5 x) rfl rfl rfl (fun _ _=>trivial) (fun xx fg=>?_);subst fg
   cases pd:eH x
   ·have hN:iD re (f1+1) i en gr=none:=ze hx pd
    refine oX ?_;refine eG 26 rfl (aT rfl) ?_;refine eK 27 rfl sP (eZ bK ?_);refine cT (cR fun _ bZ=>?_);refine oA (oZ bZ (aA ?_));refine aj (?_);exact xR rfl rfl ((by rw[hN];rfl))
   ·have o6:=kZ pd
    refine oX ?_;refine eG 26 rfl (aT rfl) ?_;refine eK 27 rfl sP (eZ bK ?_);refine eL bJ (ah fun _ cj=>?_);refine aK ((bx,.cells [.slice ra re.length rc,.int .i64 i,.slice ea en.length ec].toArray 149 (0,0))::Se) (fun i=>Nat.beq i 11) ?_;refine eK 0 rfl sM ?_;refine eK 1 rfl sN ?_;refine eK 2 rfl sF ?_;refine eK 3 rfl sL ?_;refine eK 4 rfl sM ?_;refine eK 5 rfl sN ?_;refine eK 6 rfl sF ?_;refine eK 7 rfl sL ?_;refine eK 8 rfl (au rfl rfl dr (by omega)) ?_;refine eK 9 rfl (aD rfl ((cq.old hw.1 hw.2).gx i hx rfl) (by rfl)) ?_;refine eO 10 rfl ?_;refine aB (l:=En zN) (by rw[gI];rfl) rfl fun b7=>?_;refine oX (eO 11 rfl ?_);refine bf rfl rfl bY aS aS fE ?_;refine ak ?_;refine cE rfl ?_;refine eZ cj (cR fun _ ck=>?_);refine oM ?_;refine oS sN ?_;refine oS sF ?_;refine oS sL ?_;refine oS sD ?_;refine oS sN ?_;refine oS sF ?_;refine bg rfl rfl rfl bY kD rfl ?_
    dsimp only[List.set]
    refine oZ ck ?_;refine fU (ι:=(List Bool×Nat×Option Addr×Nat×Hp)) (fun g=>gate x en gr=some (g.1,g.2.1)∧aG fR 1 4 (.slice g.2.2.1 g.1.length g.2.2.2.1) g.1 g.2.2.2.2) (fun g=>[(2,.int .i64 g.2.1)]) [(0,_),(1,_),(7,_)] (fun g=>(bx,.cells [.slice ra re.length rc,.int .i64 (i+1:Nat),.slice g.2.2.1 g.1.length g.2.2.2.1].toArray 149 (0,0))::(b7,.cells (En x).toArray 42 (0,0))::g.2.2.2.2) aH ?_ ?_
    ·rintro⟨uY,g1,ko,kp,Oh⟩ ⟨rb,GZ⟩
     dsimp only at rb GZ
     dsimp only
     have zY:=uZ rb kH hg
     refine ah fun _ bw=>?_;refine cR fun _ bF=>?_;refine oS sF ?_;refine oS sL (oM (oZ bF (ai ?_)));refine jY (fun (k:Nat)(i2:Nat)(jb:List Bool)(fi:Option Addr)(fj:Nat)(ny:Hp)=>(k:Int)≤x.kids∧fS (fun i en=>iD re f1 i en g1) k (i+1) uY=some (i2,jb)∧i+1+k≤i2∧i2≤re.length∧jb.length≤255∧uY.length≤jb.length∧aG fR 1 4 (.slice fi jb.length fj) jb ny) (fun (k:Nat)(i2:Nat)(jb:List Bool)(fi:Option Addr)(fj:Nat)(ny:Hp)=>[(114,.int .i64 k)]) [(0,_),(1,_),(2,_),(7,_),(113,_)] (fun (k:Nat)(i2:Nat)(jb:List Bool)(fi:Option Addr)(fj:Nat)(ny:Hp)=>(bx,.cells [.slice ra re.length rc,.int .i64 i2,.slice fi jb.length fj].toArray 149 (0,0))::(b7,.cells (En x).toArray 42 (0,0))::ny) (fun (k:Nat)(i2:Nat)(jb:List Bool)(fi:Option Addr)(fj:Nat)(ny:Hp)=>x.kids.toNat-k) 0 (i+1) uY ko kp Oh ⟨by omega,rfl,by omega,by omega,zY.2.1,Nat.le_refl _,GZ⟩ aH aH aP ?_
     rintro k i2 jb fi fj ny ⟨hk,EI,Ta,Ie,C7,adU,JX⟩
     refine cR fun _ bD=>?_
     by_cases EF:(k:Int)<x.kids
     ·refine oS wg (oZ bD (ah fun _ cb=>?_));refine gp cb (ah fun _ bL=>?_);refine ai (cR fun _ bQ=>?_);refine oM (oM ?_);refine oS sD (oM ?_);refine aX (ih f1 rfl bx ra rc re i2 (wi+1) g1 fi fj jb ny ey (by omega) Ie C7 zY.2.2.1 JX) rfl rfl rfl ((aJ.bR bh bh)) (fun w st=>⟨(cq.old hw.1 hw.2).out w st,St.di st (by exact AO) hw.1 hw.2 (by decide)⟩) (fun XH adV Fe=>?_)
      rcases dV:iD re f1 i2 jb g1 with _|⟨i3,Oi⟩
      ·obtain rfl:XH = .bool false:=by rw[dV] at Fe;exact Fe
       have hN:iD re (f1+1) i en gr=none:=AP hx rb (ow (jF EI dV) (by omega))
       refine oS (aT rfl) ?_;refine oZ bQ ?_;refine cT (cR fun _ cO=>?_);refine oA (oZ cO (aA ?_));refine aw (aj (aj (aw (aj (?_)))))
       exact xR rfl rfl ((by rw[hN];rfl))
      ·obtain⟨XI,sK,sO,tA,rfl,XJ⟩:XH = .bool true∧∃ sK sO tA,adV=k8 149 bx ra rc re i3 sK sO Oi::tA∧aG fR 1 4 (.slice sK Oi.length sO) Oi tA:=by rw[dV] at Fe;exact Fe
       subst XI
       unfold k8
       refine oS (aT rfl) ?_;refine oZ bQ ?_;refine cF (ax (aq (xZ bL (ae ?_))));refine oS sD (oM (ak ?_));exact xI (k+1,i3,Oi,sK,sO,tA) ⟨by omega,jF EI dV,by have:=JY dV;dsimp only;omega,JZ dV,(p8 C7 zY.2.2.1 dV).2,by have:=(p8 C7 zY.2.2.1 dV).1;dsimp only;omega,XJ⟩
     ·obtain rfl:k=x.kids.toNat:=by omega
      have hN:=AQ hx pd rb EI
      have Tc:=JX.sl
      refine oS wh (oZ bD (ah fun _ df=>?_));refine cF ?_;refine ay ?_;refine ad (ad (ag (xZ bw (ah fun _ cZ=>?_))));refine cR fun _ dq=>?_;refine oS sF ?_;refine oS sL ?_
      by_cases k7:x.op=7
      ·have hg7:=zY.2.2.2 k7
       refine oS (ij (h:=k7)) ?_;refine oZ dq ?_;refine cT ?_;refine aK ((bx,.cells [.slice ra re.length rc,.int .i64 i2,.slice fi jb.length fj].toArray 149 (0,0))::(b7,.cells (En x).toArray 42 (0,0))::ny) (fun i=>Nat.beq i 8) ?_;refine eK 0 rfl sM ?_;refine eK 1 rfl sN ?_;refine eK 2 rfl sF ?_;refine eK 3 rfl sL ?_;refine eK 4 rfl sF ?_;refine eK 5 rfl sL ?_;refine eK 6 rfl sU ?_;refine eK 7 rfl (au rfl rfl Tc (by omega)) ?_;refine eO 8 rfl ?_;refine dp (x.n.toNat-1) true JX bh rfl rfl rfl (by omega) (by omega) fun S' wH=>?_;refine ak ?_;refine cE rfl ?_;refine eZ cZ (cR fun _ dG=>?_);refine oA (oZ dG (aA ?_));refine ?_;refine cM (Sub.refl _) (H':=(bx,.cells [.slice ra re.length rc,.int .i64 i2,.slice fi jb.length fj].toArray 149 (0,0))::S') aP ?_;exact xR rfl rfl ((by rw[hN,if_pos k7];exact⟨rfl,fi,fj,S',by unfold k8;rw[List.length_set],by rw[List.length_set];exact wH⟩))
      ·refine oS (ik (h:=k7)) ?_;refine oZ dq ?_;refine eL cZ (cR fun _ eb=>?_);refine oA (oZ eb (aA ?_));refine ?_;refine cM (Sub.refl _) (H':=(bx,.cells [.slice ra re.length rc,.int .i64 i2,.slice fi jb.length fj].toArray 149 (0,0))::ny) aP ?_;exact xR rfl rfl ((by rw[hN,if_neg k7];exact⟨rfl,_,_,_,rfl,JX⟩))
    ·intro _ hJ9
     refine cR fun _ dL=>?_;refine oS sF ?_;refine oS sL (oZ dL (ai (cR fun _ dR=>?_)))
     by_cases h8:x.op=8
     ·refine oS (ij (h:=h8)) ?_;refine oA (oZ dR ?_);refine cT (ah fun _ dk=>?_);refine aK ((bx,.cells [.slice ra re.length rc,.int .i64 (i+1:Nat),.slice ea en.length ec].toArray 149 (0,0))::(b7,.cells (En x).toArray 42 (0,0))::Se) (fun i=>false) ?_;refine eK 0 rfl sF ?_;refine eK 1 rfl sL ?_
      by_cases Qu:x.n<1
      ·have hN:iD re (f1+1) i en gr=none:=fu hx (k9 h8 (by omega))
       refine eK 2 rfl wg ?_;refine eK 3 rfl sM ?_;refine eS 4 rfl (eS 5 rfl (eS 6 rfl (eS 7 rfl (eS 8 rfl (eS 9 rfl (eS 10 rfl (eS 11 rfl ?_)))))));refine eK 12 rfl sT ?_;refine eK 13 rfl sM ?_;refine eS 14 rfl (eS 15 rfl (eS 16 rfl (eS 17 rfl (eS 18 rfl (eS 19 rfl (eS 20 rfl (eS 21 rfl (eS 22 rfl (eS 23 rfl ?_)))))))));refine eK 24 rfl sT (eZ dk ?_);refine cT (cR fun _ dE=>?_);refine oA (oZ dE ?_)
       refine aA ?_;refine aw (aj (?_))
       exact xR rfl rfl ((by rw[hN];rfl))
      ·refine eK 2 rfl wh ?_;refine eK 3 rfl sM ?_;refine eG 4 rfl sF ?_;refine eG 5 rfl sL ?_;refine eG 6 rfl sM ?_;refine eG 7 rfl sN ?_;refine eG 8 rfl sF ?_;refine eG 9 rfl sL ?_;refine eG 10 rfl sC ?_
       by_cases Qv:x.n>en.length
       ·have hN:iD re (f1+1) i en gr=none:=fu hx (k9 h8 (by omega))
        refine eG 11 rfl Gp ?_;refine eK 12 rfl sP ?_;refine eK 13 rfl sM ?_;refine eS 14 rfl (eS 15 rfl (eS 16 rfl (eS 17 rfl (eS 18 rfl (eS 19 rfl (eS 20 rfl (eS 21 rfl (eS 22 rfl (eS 23 rfl ?_)))))))));refine eK 24 rfl sT (eZ dk ?_);refine cT (cR fun _ dS=>?_);refine oA (oZ dS (aA ?_));refine aw (aj (?_))
        exact xR rfl rfl ((by rw[hN];rfl))
       ·refine eG 11 rfl Gq ?_;refine eK 12 rfl sP ?_;refine eK 13 rfl sM ?_;refine eG 14 rfl sM ?_;refine eG 15 rfl sN ?_;refine eG 16 rfl sF ?_;refine eG 17 rfl sL ?_;refine eG 18 rfl sF ?_;refine eG 19 rfl sL ?_;refine eG 20 rfl sU ?_;refine eG 21 rfl (au rfl rfl gu (by omega)) ?_
        by_cases hb:en[x.n.toNat-1]?=some true
        ·refine eG 22 rfl (az rfl ((hO.aU aM).ld (x.n.toNat-1) 0 hb rfl (by decide) (by omega))) ?_;refine eG 23 rfl (aT rfl) ?_;refine eK 24 rfl sP (eZ dk ?_);refine cF (ax (aq ?_));exact av (hJ9 (en,gr,ea,ec,Se) _ _ ⟨AR h8 (by omega) (by omega) hb,hO⟩ aH aH aP)
        ·have hN:iD re (f1+1) i en gr=none:=fu hx (k9 h8 (fun h=>hb h.2.2))
         have Ih:=xy hb (by omega)
         refine eG 22 rfl (az rfl ((hO.aU aM).ld (x.n.toNat-1) 0 Ih rfl (by decide) (by omega))) ?_;refine eG 23 rfl (aT rfl) ?_;refine eK 24 rfl sP (eZ dk ?_);refine cT (cR fun _ dW=>?_);refine oA (oZ dW (aA ?_));refine aw (aj (?_))
         exact xR rfl rfl ((by rw[hN];rfl))
     ·refine oS (ik (h:=h8)) ?_;refine oA (oZ dR ?_);refine cF (cR fun _ ee=>?_)
      by_cases h7:x.op=7
      ·refine oS (ij (h:=h7)) ?_;refine oA (oZ ee ?_);refine cT (cR fun _ eh=>?_);refine oM (oM ?_);refine oS sN ?_;refine oS sF ?_;refine oS sL ?_;refine ct (E:=fR) (xs:=[false]) (vs:=[_]) rfl rfl rfl rfl rfl (by decide) (by decide) fun b89 S89 adX=>?_;refine bX hO (adX.aU aM) rfl rfl rfl rfl (by simp only[List.length_singleton];omega) (by simp only[List.length_singleton];omega) rfl bh fun a90 c90 S90 Td=>?_;refine oS sN ?_;refine oS sF ?_;refine bg rfl rfl rfl bY kD rfl ?_
       dsimp only[List.set]
       refine oZ eh (ah fun _ eD=>?_);refine ah fun _ dN=>?_;refine aK ((bx,.cells [.slice ra re.length rc,.int .i64 (i+1:Nat),.slice a90 (en++[false]).length c90].toArray 149 (0,0))::(b7,.cells (En x).toArray 42 (0,0))::S90) (fun i=>false) ?_;refine eK 0 rfl sF ?_;refine eK 1 rfl sL ?_;refine eK 2 rfl sM ?_;refine eK 3 rfl sN ?_;refine eK 4 rfl sF ?_;refine eK 5 rfl sL ?_;refine eK 6 rfl sC ?_
       by_cases Qu:x.n≠en.length+1
       ·have hN:iD re (f1+1) i en gr=none:=fu hx (lf h7 (by omega))
        refine eK 7 rfl (ab (v':=.bool true) (eY rfl rfl) (by rw[decide_eq_true (by simp;omega)])) ?_;refine eK 8 rfl sM ?_;refine eS 9 rfl (eS 10 rfl (eS 11 rfl ?_));refine eK 12 rfl sT ?_;refine eK 13 rfl sM ?_;refine eS 14 rfl (eS 15 rfl ?_);refine eK 16 rfl sT (eZ dN ?_);refine cT (cR fun _ e6=>?_);refine oA (oZ e6 (aA ?_));refine aj (aw (aj (?_)))
        exact xR rfl rfl ((by rw[hN];rfl))
       ·refine eK 7 rfl (ab (v':=.bool false) (eY rfl rfl) (by rw[decide_eq_false (by simp;omega)])) ?_;refine eK 8 rfl sM ?_;refine eG 9 rfl sF ?_;refine eG 10 rfl sL ?_
        by_cases Qv:x.n>255
        ·have hN:iD re (f1+1) i en gr=none:=fu hx (lf h7 (by omega))
         refine eG 11 rfl Gp ?_;refine eK 12 rfl sP ?_;refine eK 13 rfl sM ?_;refine eS 14 rfl (eS 15 rfl ?_);refine eK 16 rfl sT (eZ dN ?_);refine cT (cR fun _ du=>?_);refine oA (oZ du (aA ?_));refine aj (aw (aj (?_)))
         exact xR rfl rfl ((by rw[hN];rfl))
        ·refine eG 11 rfl Gq ?_;refine eK 12 rfl sP ?_;refine eK 13 rfl sM ?_;refine eG 14 rfl sM ?_
         by_cases hn3:gr=64
         ·have hN:iD re (f1+1) i en gr=none:=fu hx (lf h7 (by omega))
          refine eG 15 rfl ij ?_;refine eK 16 rfl sP (eZ dN ?_);refine cT (cR fun _ fF=>?_);refine oA (oZ fF (aA ?_));refine aj (aw (aj (?_)))
          exact xR rfl rfl ((by rw[hN];rfl))
         ·refine eG 15 rfl ik ?_;refine eK 16 rfl sP (eZ dN ?_);refine eL eD (ae (oM ?_));refine oS sD (oA (ak (aq ?_)));exact av (hJ9 (en++[false],gr+1,a90,c90,S90) _ _ ⟨AS h7 ⟨by omega,by omega,by omega⟩,Td⟩ aH aH aP)
      ·refine oS (ik (h:=h7)) ?_;refine oA (oZ ee ?_);refine cF (ax (aq ?_));exact av (hJ9 (en,gr,ea,ec,Se) _ _ ⟨u0 h8 h7,hO⟩ aH aH aP)
set_option maxHeartbeats 1000000 in
theorem Ov (x:Nd)(wa:-128≤x.op∧x.op<128):HL.Fn Tryz.prog 127 [.agg (En x).toArray] (fun _=>True) [] (fun v _=>v = .bool (sJ x)):=by
 refine aW Tryz.func127 rfl rfl rfl fun w0 hw=>?_;refine cR fun _ bI=>?_;refine cB rfl rfl rfl fun b1=>?_;refine oA (oZ bI (cR fun _ bJ=>?_));refine oS sF ?_;refine oS sL ?_;refine oS (qg rfl (by omega)) ?_;refine oA (oZ bJ (ah fun _ bK=>?_));refine cR fun _ bU=>?_;refine oM ?_
 by_cases h1:x.op<1
 ·refine oS wg (oM ?_);refine oN ?_;refine oN ?_;refine oS sT (oZ bU ?_);refine cT (cR fun _ bT=>?_);refine oA (oZ bT (aA ?_));refine aj (?_);exact xR rfl rfl ((congrArg Value.bool (Eq.symm (Bool.eq_false_iff.2 (fun h=>by obtain⟨a,_,b,c,d⟩:=dy.1 h;omega)))))
 ·refine oS wh (oM ?_);refine oY (oM ?_);refine oY ?_
  by_cases h2:x.op>8
  ·refine oS Gp ?_;refine oS sP (oZ bU ?_);refine cT (cR fun _ bZ=>?_);refine oA (oZ bZ (aA ?_));refine aj (?_);exact xR rfl rfl ((congrArg Value.bool (Eq.symm (Bool.eq_false_iff.2 (fun h=>by obtain⟨a,_,b,c,d⟩:=dy.1 h;omega)))))
  ·refine oS Gq ?_;refine oS sP (oZ bU ?_);refine eL bK ?_;refine fU (ι:=Unit) (fun g=>x.op=1∨x.set=0) (fun g=>[]) [(1,_),(3,_)] (fun g=>[(b1,.cells (En x).toArray 42 (0,0))]) aH ?_ ?_
   ·rintro g tQ
    refine fU (ι:=Unit) (fun g=>x.op=7∨x.op=8∨x.n=0) (fun g=>[]) [(1,_),(3,_)] (fun g=>[(b1,.cells (En x).toArray 42 (0,0))]) aH ?_ ?_
    ·rintro g Qb
     refine ah fun _ cQ=>?_;refine cR fun _ bw=>?_;refine oM ?_
     by_cases h8:x.op≠6
     ·refine oS N7 (oZ bw ?_);refine cT (cR fun _ bF=>?_);refine oS sF ?_;refine oS sL ?_
      by_cases h9:x.mn=0
      ·refine oS ij (oM ?_);refine oY ?_;refine oS sF ?_;refine oY ?_;refine oS sL ?_;refine oY ?_
       by_cases h10:x.mx=0
       ·refine oS ij ?_;refine oS sT (oA (oZ bF (aA ?_)));refine aj (?_);exact xR rfl rfl ((congrArg Value.bool (Eq.symm (dy.2 ⟨by omega,tQ,Qb,fun _=>by omega,fun _=>by omega⟩))))
       ·refine oS ik ?_;refine oS sT (oA (oZ bF (aA ?_)));refine aj (?_);exact xR rfl rfl ((congrArg Value.bool (Eq.symm (Bool.eq_false_iff.2 (fun h=>by obtain⟨a,_,b,c,d⟩:=dy.1 h;omega)))))
      ·refine oS ik (oM ?_);refine oN ?_;refine oN ?_;refine oN ?_;refine oS sP (oA (oZ bF (aA ?_)));refine aj (?_);exact xR rfl rfl ((congrArg Value.bool (Eq.symm (Bool.eq_false_iff.2 (fun h=>by obtain⟨a,_,b,c,d⟩:=dy.1 h;omega)))))
     ·refine oS N8 (oZ bw ?_);refine eL cQ (cR fun _ bD=>?_);refine oS sF ?_;refine oS sL ?_
      by_cases k1:x.mn≥0
      ·refine oS geT (oM ?_);refine oY ?_;refine oS sF ?_;refine oY ?_;refine oS sL ?_;refine oY ?_
       by_cases k2:x.mn≤255
       ·refine oS leT ?_;refine oS sT (oM ?_);refine oY ?_;refine oS sF ?_;refine oY ?_;refine oS sL ?_;refine oY ?_
        by_cases k3:x.mx = -1
        ·refine oS ij ?_;refine oY (oM ?_);refine oN ?_;refine oN ?_;refine oN ?_;refine oN ?_;refine oN ?_;refine oN ?_;refine oU ?_;refine oU ?_;refine oU ?_;refine oN ?_;refine oY ?_;refine oS sT ?_;refine oS sT (oA (oZ bD (aA ?_)));refine ?_;exact xR rfl rfl ((congrArg Value.bool (Eq.symm (dy.2 ⟨by omega,tQ,Qb,fun _=>by omega,fun _=>by omega⟩))))
        ·refine oS ik ?_;refine oY (oM ?_);refine oY ?_;refine oS sF ?_;refine oY ?_;refine oS sL ?_;refine oY ?_;refine oS sF ?_;refine oY ?_;refine oS sL ?_;refine oY ?_
         by_cases k4:x.mx≥x.mn
         ·refine oS geT ?_;refine oY (oM ?_);refine oY ?_;refine oS sF ?_;refine oY ?_;refine oS sL ?_;refine oY ?_
          by_cases k5:x.mx≤255
          ·refine oS leT ?_;refine oY ?_;refine oS sT ?_;refine oY ?_;refine oS sP ?_;refine oS sT (oA (oZ bD (aA ?_)));refine ?_;exact xR rfl rfl ((congrArg Value.bool (Eq.symm (dy.2 ⟨by omega,tQ,Qb,fun _=>by omega,fun _=>by omega⟩))))
          ·refine oS leF ?_;refine oY ?_;refine oS sT ?_;refine oY ?_;refine oS sP ?_;refine oS sT (oA (oZ bD (aA ?_)));refine ?_;exact xR rfl rfl ((congrArg Value.bool (Eq.symm (Bool.eq_false_iff.2 (fun h=>by obtain⟨a,_,b,c,d⟩:=dy.1 h;omega)))))
         ·refine oS geF ?_;refine oY (oM ?_);refine oN ?_;refine oN ?_;refine oN ?_;refine oY ?_;refine oS sP ?_;refine oY ?_;refine oS sP ?_;refine oS sT (oA (oZ bD (aA ?_)));refine ?_;exact xR rfl rfl ((congrArg Value.bool (Eq.symm (Bool.eq_false_iff.2 (fun h=>by obtain⟨a,_,b,c,d⟩:=dy.1 h;omega)))))
       ·refine oS leF ?_;refine oS sT (oM ?_);refine oN ?_;refine oN ?_;refine oN ?_;refine oN ?_;refine oU ?_;refine oU ?_;refine oU ?_;refine oU ?_;refine oU ?_;refine oU ?_;refine oU ?_;refine oU ?_;refine oU ?_;refine oU ?_;refine oN ?_;refine oS sP (oA (oZ bD (aA ?_)));refine ?_;exact xR rfl rfl ((congrArg Value.bool (Eq.symm (Bool.eq_false_iff.2 (fun h=>by obtain⟨a,_,b,c,d⟩:=dy.1 h;omega)))))
      ·refine oS geF (oM ?_);refine oN ?_;refine oN ?_;refine oN ?_;refine oS sP (oM ?_);refine oN ?_;refine oN ?_;refine oN ?_;refine oN ?_;refine oU ?_;refine oU ?_;refine oU ?_;refine oU ?_;refine oU ?_;refine oU ?_;refine oU ?_;refine oU ?_;refine oU ?_;refine oU ?_;refine oN ?_;refine oS sP (oA (oZ bD (aA ?_)));refine ?_;exact xR rfl rfl ((congrArg Value.bool (Eq.symm (Bool.eq_false_iff.2 (fun h=>by obtain⟨a,_,b,c,d⟩:=dy.1 h;omega)))))
    ·intro _ hJ8
     refine cR fun _ cb=>?_;refine oM ?_
     by_cases h5:x.op≠7
     ·refine oS N7 (oM ?_);refine oY (oM ?_);refine oY ?_
      by_cases h6:x.op≠8
      ·refine oS N7 ?_;refine oS sT (oM ?_);refine oY ?_;refine oS sF ?_;refine oY ?_;refine oS sL ?_;refine oY ?_
       by_cases h7:x.n≠0
       ·refine oS N7 ?_;refine oS sT (oZ cb ?_);refine cT (cR fun _ bL=>?_);refine oA (oZ bL (aA ?_));refine aj (?_);exact xR rfl rfl ((congrArg Value.bool (Eq.symm (Bool.eq_false_iff.2 (fun h=>by obtain⟨a,_,b,c,d⟩:=dy.1 h;omega)))))
       ·refine oS N8 ?_;refine oS sT (oZ cb ?_);refine cF (ax ?_);exact av (hJ8 () _ _ (by omega) aH aH aP)
      ·refine oS N8 ?_;refine oS sT (oM ?_);refine oN ?_;refine oN ?_;refine oN ?_;refine oS sP (oZ cb ?_);refine cF (ax ?_);exact av (hJ8 () _ _ (by omega) aH aH aP)
     ·refine oS N8 (oM ?_);refine oN ?_;refine oN ?_;refine oS sP (oM ?_);refine oN ?_;refine oN ?_;refine oN ?_;refine oS sP (oZ cb ?_);refine cF (ax ?_);exact av (hJ8 () _ _ (by omega) aH aH aP)
   ·intro _ hJ7
    refine cR fun _ bQ=>?_;refine oM ?_
    by_cases h3:x.op≠1
    ·refine oS N7 (oM ?_);refine oY ?_;refine oS sF ?_;refine oY ?_;refine oS (aD rfl (aI.aO (aI.l3 (cs:=Ec x.set) aV yH)) (th _)) ?_;refine oY ?_;refine oS (ab (v':=.agg (Ec 0#256).toArray) (fX rfl) (by rw[bk];rfl)) ?_;refine oY ?_
     by_cases h4:x.set≠0#256
     ·refine oS (ab (v':=.bool true) (gb rfl rfl) (by rw[decide_eq_true h4])) ?_;refine oS sT (oZ bQ ?_);refine cT (cR fun _ cO=>?_);refine oA (oZ cO (aA ?_));refine aj (?_);exact xR rfl rfl ((congrArg Value.bool (Eq.symm (Bool.eq_false_iff.2 (fun h=>by obtain⟨_,a,_⟩:=dy.1 h;exact a.elim h3 h4)))))
     ·refine oS (ab (v':=.bool false) (gb rfl rfl) (by rw[decide_eq_false h4])) ?_;refine oS sT (oZ bQ ?_);refine cF (ax ?_);exact av (hJ7 () _ _ (.inr (Decidable.not_not.1 h4)) aH aH aP)
    ·refine oS N8 (oM ?_);refine oN ?_;refine oN ?_;refine oN ?_;refine oN ?_;refine oS sP (oZ bQ ?_);refine cF (ax ?_);exact av (hJ7 () _ _ (.inl (by omega)) aH aH aP)
theorem Ow (x:Nd)(wa:-128≤x.op∧x.op<128):HL.Fn Tryz.prog 128 [.agg (En x).toArray] (fun _=>True) [] (fun v _=>v = .bool (gi x)):=by
 refine aW Tryz.func128 rfl rfl rfl fun w0 hw=>?_;refine cR fun _ bI=>?_;refine cB rfl rfl rfl fun b1=>?_;refine oA (oZ bI (ah fun _ bJ=>?_));refine cR fun _ bK=>?_;refine oS sF ?_;refine oS sL ?_;refine oS (qg rfl (by omega)) ?_;refine oZ bK (ai (ah fun _ bU=>?_));refine cR fun _ bT=>?_
 by_cases k6:x.op=6
 ·refine oS (ij (h:=k6)) ?_;refine oA (oZ bT ?_);refine gp bU ?_;refine cT (cR fun _ bZ=>?_);refine oS sF ?_;refine oS sL ?_;refine oS (bO rfl rfl) ?_;refine oA (oZ bZ (aA ?_));refine aw (aj (?_))
  exact xR rfl rfl ((congrArg Value.bool (by rw[gi,if_pos (.inl k6)])))
 ·refine oS (ik (h:=k6)) ?_;refine oA (oZ bT ?_);refine cF (ae ?_)
  by_cases k7:x.op=7
  ·refine oS (ij (h:=k7)) ?_;refine oA (oZ bU ?_);refine cT (cR fun _ cj=>?_);refine oS sF ?_;refine oS sL ?_;refine oS (bO rfl rfl) ?_;refine oA (oZ cj (aA ?_));refine aw (aj (?_))
   exact xR rfl rfl ((congrArg Value.bool (by rw[gi,if_pos (.inr k7)])))
  ·refine oS (ik (h:=k7)) ?_;refine oA (oZ bU ?_);refine cF (cR fun _ ck=>?_)
   by_cases k4:x.op=4
   ·refine oS (ij (h:=k4)) ?_;refine oA (oZ ck ?_);refine cT (cR fun _ cQ=>?_);refine oS sF ?_;refine oS sL ?_
    by_cases k0:x.kids=0
    ·refine oS ij (oM ?_);refine oN ?_;refine oN ?_;refine oN ?_;refine oS sT (oA (oZ cQ (aA ?_)));refine aw (aj (?_))
     exact xR rfl rfl ((congrArg Value.bool (by rw[gi,if_neg (by omega),if_pos k4,decide_eq_true (by omega)])))
    ·refine oS ik (oM ?_);refine oY ?_;refine oS sF ?_;refine oY ?_;refine oS sL ?_;refine oY ?_;refine oS (iH rfl rfl) ?_;refine oS sP (oA (oZ cQ (aA ?_)));refine aw (aj (?_))
     exact xR rfl rfl ((congrArg Value.bool (by rw[gi,if_neg (by omega),if_pos k4];exact decide_eq_decide.2 (by omega))))
   ·refine oS (ik (h:=k4)) ?_;refine oA (oZ ck ?_);refine cF (cR fun _ bw=>?_)
    by_cases k5:x.op=5
    ·refine oS (ij (h:=k5)) ?_;refine oA (oZ bw ?_);refine cT (cR fun _ bF=>?_);refine oS sF ?_;refine oS sL ?_;refine oS (iH rfl rfl) ?_;refine oA (oZ bF (aA ?_));refine aw (aj (?_))
     exact xR rfl rfl ((congrArg Value.bool (by rw[gi,if_neg (by omega),if_neg (by omega),if_pos k5])))
    ·refine oS (ik (h:=k5)) ?_;refine oA (oZ bw ?_);refine cF (ax (aq (xZ bJ (cR fun _ bD=>?_))));refine oS sF ?_;refine oS sL ?_;refine oS (bO rfl rfl) ?_;refine oA (oZ bD (aA ?_));refine ?_;exact xR rfl rfl ((congrArg Value.bool (by rw[gi,if_neg (by omega),if_neg (by omega),if_neg (by omega)])))
end Go.Proofs.YtmompllplidphaaGreatDoor
