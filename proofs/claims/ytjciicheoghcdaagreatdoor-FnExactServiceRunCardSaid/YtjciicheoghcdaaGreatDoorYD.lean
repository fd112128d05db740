/- Part of the proof that the law FnExactServiceRun of the given program returns true for every input. -/
import Derived.Deep.Slices
import Derived.Deep.Strs
import Derived.OpenShut
import Derived.Test.YtjciicheoghcdaaGreatDoorYC
import Derived.Test.YtjciicheoghcdaaGreatDoorYd
import Derived.Test.YtjciicheoghcdaaGreatDoorYm
namespace Go.Proofs.YtjciicheoghcdaaGreatDoor
open Go.RowKit
set_option linter.unusedSimpArgs false
set_option linter.unusedVariables false
set_option maxRecDepth 20000
set_option maxHeartbeats 16000000
section
attribute [local go_sem] af ah ae
def TyK (u w:World):Prop:=∀ g t cs,Blk u g t cs->∃ ds,Blk w g t ds
theorem TyK.refl (u:World):TyK u u:=fun g t cs h=>⟨cs,h⟩
theorem TyK.trans {u w w':World} (h:TyK u w) (k:TyK w w'):TyK u w':=fun g t cs hb=>by
 obtain ⟨ds,hd⟩:=h g t cs hb
 exact k g t ds hd
theorem TyK.set (w:World) (g i:Nat) (v:Value):TyK w (w.setCell ⟨g,i,none⟩ v):=fun g' t cs hb=>by
 by_cases e:g'=g
 ·subst e
  exact ⟨_,hb.dc i v⟩
 ·exact ⟨cs,hb.far (p:=⟨g,i,none⟩) e v⟩
theorem Fr.ty {w w':World} {b:Nat} {F:List Nat} (h:Fr w b F) (k:TyK w w'):Fr w' b F:=⟨h.1,fun g hg=>by
 obtain ⟨h1,t,cs,h2,h3⟩:=h.2 g hg;obtain ⟨ds,hd⟩:=k g t cs h2
 exact ⟨h1,t,ds,hd,h3⟩⟩
structure Mk (G:Nat->Prop) (u w:World):Prop where
 up:UpL G u w
 ty:TyK u w
theorem Mk.refl {G:Nat->Prop} (u:World):Mk G u u:=⟨UpL.refl,TyK.refl u⟩
theorem Mk.set {G:Nat->Prop} {u w:World} (h:Mk G u w) (g i:Nat) (v:Value) (hg:G g):Mk G u (w.setCell ⟨g,i,none⟩ v):=⟨h.up.Bc _ v fun _=>hg,h.ty.trans (TyK.set w g i v)⟩
theorem Mk.trans {G G':Nat->Prop} {u w w':World} (h:Mk G u w) (k:Mk G' w w') (hg:∀ i,G' i->G i):Mk G u w':=⟨h.up.trans k.up fun i _ e=>hg i e,h.ty.trans k.ty⟩
theorem SI.set {w:World} {b off n j:Nat} {xs:List Int} {t:TypeId} {ds:Array Value} (h:SI w (some ⟨b,off,none⟩) n xs) (hB:Blk w b t ds) (hj:j<n) (v:Int):SI (w.setCell ⟨b,off+j,none⟩ (.int .i64 v)) (some ⟨b,off,none⟩) n (xs.set j v):=by
 refine ⟨by rw [List.length_set];exact h.1,fun h0=> ?_⟩
 obtain ⟨b',off',e,hb,hc⟩:=h.2 h0;injection e with e;injection e with e1 e2;subst e1 e2;refine ⟨b,off,rfl,by simpa [World.setCell] using hb,fun i hi=> ?_⟩
 have hci:=hc i hi;rw [hB.cell] at hci;have hcj:=hc j hj;rw [hB.cell] at hcj;have hl:=(Array.getElem?_eq_some_iff.1 hcj).1;rw [(hB.dc _ _).cell,Array.getElem?_setIfInBounds,List.getD_eq_getElem?_getD,List.getElem?_set]
 by_cases e:i=j
 ·subst e;rw [if_pos rfl,if_pos hl,if_pos rfl,if_pos (by rw [h.1];exact hi)]
  rfl
 ·rw [if_neg (by omega),if_neg (fun h=>e h.symm),hci,List.getD_eq_getElem?_getD]
theorem kB (A:Option Addr) (n c:Nat) (xs:List Int) (k:Int) (w:World) (hx:SI w A n xs) (hB:∀ g,blk A=some g->0<n->∃ t cs,Blk w g t cs) (bn:n<=281474976710656) (hk:0<=k/\k<=4611686018427387904) :
  Calls Tryz.prog 159 #[.slice A n c,.int .i64 k] w fun e w'=>e= .returned (.int .i64 (k+(n:Int)))/\SI w' A n (marks k n)/\Mk (fun i=>0<n/\blk A=some i) w w':=by
 obtain ⟨k0,k1⟩:=hk
 by_cases h0:n=0
 ·subst h0;have e0:xs=[]:=List.eq_nil_of_length_eq_zero hx.1;subst e0;have HX:=Lib.hid hx;clear hx hB;have e:k+((0:Nat):Int)=k:=by omega
  rw [e];clear e
  go_enter Tryz.func159,Tryz.ntmps159
  go_wp2;refine wp_loop_rounds 1 ?_;rw [rounds_succ];go_wp2
  go_ret
  exact ⟨rfl,HX.out,Mk.refl w⟩
 ·obtain ⟨b,off,rfl,hb,_⟩:=hx.2 (by omega)
  have lx:=Lib.hid hx.1;have HX:=Lib.hid hx;have HB:=Lib.hid (hB b rfl (by omega))
  clear hx hB
  go_enter Tryz.func159,Tryz.ntmps159
  go_wp2
  go_loopw [1,5] (fun q i wr=>∃ j:Nat,j<=n/\i= .int .i64 j/\q= .int .i64 (k+(j:Int))/\Hid (SI wr (some ⟨b,off,none⟩) n (marks k j++xs.drop j))/\Hid (Mk (fun i=>0<n/\blk (some ⟨b,off,none⟩)=some i) w wr)) (fun _ i _=>n-(intOf i).toNat)
  case atStart=>exact ⟨0,Nat.zero_le _,rfl,by simp,by simpa [marks] using HX,Mk.refl w⟩
  case round =>
   obtain ⟨j,hj,rfl,rfl,hsi,hmk⟩:=hrel
   by_cases hlt:j<n
   ·obtain ⟨t,cs,hbl⟩:=HB.out;obtain ⟨ds,hbd⟩:=hmk.out.ty b t cs hbl;have HBD:=Lib.hid hbd;obtain ⟨u,cu⟩:∃ u,wr.cell? ⟨b,off+j,none⟩=some (.int .i64 u):=by
     obtain ⟨b',off',e,_,hc⟩:=hsi.out.2 (by omega)
     injection e with e;injection e with e1 e2;subst e1 e2
     exact ⟨_,hc j hlt⟩
    have fu:=hbd.frozen (off+j);clear hbl hbd;go_wp2
    go_roundw
    case rel =>
     refine ⟨j+1,by omega,by go_num,by go_num,?_,hmk.out.set b (off+j) _ ⟨by omega,rfl⟩⟩
     have h:=hsi.out.set HBD.out hlt (k+(j:Int));rw [uT k j xs (by rw [lx.out];exact hlt)] at h
     exact h
    case measure=>simp [intOf];omega
   ·have hjn:j=n:=by omega
    subst hjn;have hfin:SI wr (some ⟨b,off,none⟩) j (marks k j):=by
     have h:=hsi.out;rw [List.drop_eq_nil_of_le (by rw [lx.out];exact Nat.le_refl _),List.append_nil] at h
     exact h
    have HF:=Lib.hid hfin;clear hfin hsi;go_wp2
    go_ret
    exact ⟨rfl,HF.out,hmk.out⟩
structure Fg (wr v:World) (b:Nat) (t:TypeId) (D:Array Value) (o:Nat) (K:Int) (A:Option Addr) (n:Nat):Prop where
 bl:Blk v b t ((D.setIfInBounds o (.int .i64 K)).setIfInBounds (o+1) (.int .i64 (K+1)))
 si:SI v A n (marks (K+1+1) n)
 up:Mk (fun i=>i=b\/(0<n/\blk A=some i)) wr v
theorem Fg.of {wr v:World} {b:Nat} {t:TypeId} {D:Array Value} {o:Nat} {K:Int} {A:Option Addr} {n:Nat} (hB:Blk wr b t D) (hA:0<n->blk A≠some b) (hs:SI v A n (marks (K+1+1) n)) (h:Mk (fun i=>0<n/\blk A=some i) ((wr.setCell ⟨b,o,none⟩ (.int .i64 K)).setCell ⟨b,o+1,none⟩ (.int .i64 (K+1))) v):Fg wr v b t D o K A n:=by
 have h1:=(hB.dc o (.int .i64 K)).dc (o+1) (.int .i64 (K+1))
 exact ⟨(h.up.block b h1.lt fun e=>hA e.1 e.2).trans h1,hs,(((Mk.refl wr).set b o _ (.inl rfl)).set b (o+1) _ (.inl rfl)).trans h fun i hi=> .inr hi⟩
theorem MF.far {w w':World} {A:Option Addr} {c b:Nat} {m:Mx} {F:List Nat} (h:MF w A c m F) (hb:b∉F) (hk:∀ g,g≠b->w'.heap[g]?=w.heap[g]?):MF w' A c m F:=h.au fun g hg=>hk g fun e=>hb (e ▸ hg)
theorem zt (w:World) (b o:Nat) (x y:Value):∀ g,g≠b->((w.setCell ⟨b,o,none⟩ x).setCell ⟨b,o+1,none⟩ y).heap[g]?=w.heap[g]?:=fun g hg=>(Below.heap_setCell _ _ _ g hg).trans (Below.heap_setCell _ _ _ g hg)
theorem iH {A:Option Addr} {n g:Nat} (h:blk A=some g) (h0:0<n):g∈fpI A n:=by
 unfold fpI;rw [if_neg (by omega),h]
 simp
theorem jl (A:Option Addr) (n c:Nat) (xs:List (Mx×Mx)) (F:List Nat) (k:Int) (b0:Nat) (w:World) (hx:RI smE w A n c xs F) (hf:Fr w b0 F) (bn:n<=1048576) (hs:∀ p,p∈xs->smS p) (hk:0<=k/\k+(ctA ctP xs:Int)<=4611686018427387904) :
  Calls Tryz.prog 118 #[.slice A n c,.int .i64 k] w fun e w'=>e= .returned (.int .i64 (k+(ctA ctP xs:Int)))/\RI smE w' A n c (mkA mkP ctP xs k) F/\Mk (fun i=>i∈F) w w':=by
 obtain ⟨k0,k1⟩:=hk;have HL:=Lib.hid hx.1;have HX:Hid (RI smE w A n c (mkJ mkP ctP xs k 0) F):=by rw [rV];exact hx
 have HF:=Lib.hid hf;have HS:=Lib.hid hs;clear hx hf hs
 go_enter Tryz.func118,Tryz.ntmps118
 go_wp2
 go_loopw [1,5] (fun q i wr=>∃ j:Nat,j<=n/\i= .int .i64 j/\q= .int .i64 (k+(ctA ctP (xs.take j):Int))/\Hid (RI smE wr A n c (mkJ mkP ctP xs k j) F)/\Hid (Mk (fun i=>i∈F) w wr)) (fun _ i _=>n-(intOf i).toNat)
 case atStart=>exact ⟨0,Nat.zero_le _,rfl,by simp [ctA],HX,Mk.refl w⟩
 case round =>
  clear HX;obtain ⟨j,hj,rfl,rfl,hri,hmk⟩:=hrel
  by_cases hlt:j<n
  ·obtain ⟨x,hxj,hmem⟩:=aH (xs:=xs) (j:=j) (by have:=HL.out;omega)
   have hct:=iF (c:=ctP) hxj;have hcl:=nd (c:=ctP) xs (j+1);obtain ⟨K,hK⟩:∃ K:Int,K=k+(ctA ctP (xs.take j):Int):=⟨_,rfl⟩;have hx4:ctP x=4+x.1.v.length+x.2.v.length:=rfl;have K0:0<=K:=by omega
   have K1:K+4+(x.1.v.length:Int)+(x.2.v.length:Int)<=4611686018427387904:=by omega
   have HNX:=Lib.hid (rU (f:=mkP) (c:=ctP) (k:=k) hxj);rw [<- hK] at HNX ⊢;have HK:=Lib.hid hK;have HCT:=Lib.hid hct;have HX4:=Lib.hid hx4;clear hK hct hcl hx4;obtain ⟨b,off,cs,F2,rfl,hbF,hbn,hn2,hsub,hp,hc,hre⟩:=hri.out.focus HF.out.1 (wD hxj);obtain ⟨A1,c1,B1,d1,Fa,Fb,rfl,m1,m2,rfl⟩:=hp;obtain ⟨_,t,cB,hB0,_⟩:=HF.out.2 b hbF;obtain ⟨dB,hdB⟩:=hmk.out.ty b t cB hB0;have e0:wr.cell? ⟨b,off+j*6,none⟩=some (.int .i64 x.1.r):=hc 0 (by decide)
   have e1:wr.cell? ⟨b,off+j*6+1,none⟩=some (.int .i64 x.1.c):=hc 1 (by decide)
   have e2:wr.cell? ⟨b,off+j*6+2,none⟩=some (.slice A1 x.1.v.length c1):=hc 2 (by decide)
   have e3:wr.cell? ⟨b,off+j*6+3,none⟩=some (.int .i64 x.2.r):=hc 3 (by decide)
   have e4:wr.cell? ⟨b,off+j*6+4,none⟩=some (.int .i64 x.2.c):=hc 4 (by decide)
   have e5:wr.cell? ⟨b,off+j*6+5,none⟩=some (.slice B1 x.2.v.length d1):=hc 5 (by decide)
   have f0:=hdB.frozen (off+j*6);have f1:=hdB.frozen (off+j*6+1);have f3:=hdB.frozen (off+j*6+3);have f4:=hdB.frozen (off+j*6+4);have lb:=hdB.lt;have HD:=Lib.hid hdB;have HRE:=Lib.hid hre;have HCC:=Lib.hid hc;clear hdB hre hc;have hA1:0<x.1.v.length->blk A1≠some b:=fun h e=>hbn (List.mem_append_left _ (by rw [m1.2.2.2];exact iH e h))
   have hB1:0<x.2.v.length->blk B1≠some b:=fun h e=>hbn (List.mem_append_right _ (by rw [m2.2.2.2];exact iH e h))
   have hAB:∀ g,0<x.1.v.length/\blk A1=some g->0<x.2.v.length/\blk B1=some g->False:=fun g h1 h2=>by
    rw [List.nodup_append] at hn2
    exact hn2.2.2 g (by rw [m1.2.2.2];exact iH h1.2 h1.1) g (by rw [m2.2.2.2];exact iH h2.2 h2.1) rfl
   have hF1:∀ g,0<x.1.v.length/\blk A1=some g->g∈F:=fun g h=>hsub g (List.mem_append_left _ (by rw [m1.2.2.2];exact iH h.2 h.1))
   have hF2:∀ g,0<x.2.v.length/\blk B1=some g->g∈F:=fun g h=>hsub g (List.mem_append_right _ (by rw [m2.2.2.2];exact iH h.2 h.1))
   have hl1:x.1.v.length<=1048576:=(HS.out x hmem).1;have hl2:x.2.v.length<=1048576:=(HS.out x hmem).2;have hT:∀ (v:World) (n:Nat) (P:Option Addr),Mk (fun i=>i∈F) w v->(∀ g,0<n/\blk P=some g->g∈F)->∀ g,blk P=some g->0<n->∃ t cs,Blk v g t cs:=fun v n P hm hP g hg h0=>by
    obtain ⟨_,t,cs,h,_⟩:=HF.out.2 g (hP g ⟨h0,hg⟩);obtain ⟨ds,hd⟩:=hm.ty g t cs h
    exact ⟨t,ds,hd⟩
   have HA1:=Lib.hid hA1;have HB1:=Lib.hid hB1;have HAB:=Lib.hid hAB;have HF1:=Lib.hid hF1;have HF2:=Lib.hid hF2;have HTT:=Lib.hid hT;have HM1:=Lib.hid m1;have HM2:=Lib.hid m2;have HBF:=Lib.hid hbF;have HBN:=Lib.hid hbn;clear hA1 hB1 hAB hF1 hF2 hT m1 m2 hbF hbn hn2 hsub hB0 hri
   go_wp2_with fail
   have hmu:Mk (fun i=>i∈F) w ((wr.setCell ⟨b,off+j*6,none⟩ (.int .i64 K)).setCell ⟨b,off+j*6+1,none⟩ (.int .i64 (K+1))):=(hmk.out.set b _ _ HBF.out).set b _ _ HBF.out
   have hs1:=(HM1.out.far (fun h=>HBN.out (List.mem_append_left _ h)) (zt wr b (off+j*6) (.int .i64 K) (.int .i64 (K+1)))).1
   have hBB:=HTT.out _ _ _ hmu HF1.out;refine (kB A1 _ c1 x.1.v (K+1+1) _ hs1 hBB (by omega) (by omega)).mono ?_
   rintro e v ⟨rfl,hs,hmv⟩;have hh:=Fg.of HD.out HA1.out hs hmv;have HH:=Lib.hid hh;have hmw:Mk (fun i=>i∈F) w v:=hmu.trans hmv HF1.out
   have HMW:=Lib.hid hmw;have hkc:∀ o,o≠off+j*6->o≠off+j*6+1->v.cell? ⟨b,o,none⟩=wr.cell? ⟨b,o,none⟩:=fun o h1 h2=>by
    rw [hh.bl.cell,HD.out.cell,Array.getElem?_setIfInBounds_ne (by omega),Array.getElem?_setIfInBounds_ne (by omega)]
   replace e3:=(hkc (off+j*6+3) (by omega) (by omega)).trans e3
   replace e4:=(hkc (off+j*6+4) (by omega) (by omega)).trans e4
   replace e5:=(hkc (off+j*6+5) (by omega) (by omega)).trans e5
   replace f3:=hh.bl.frozen (off+j*6+3);replace f4:=hh.bl.frozen (off+j*6+4);replace lb:=hh.bl.lt;have hm2:MF v B1 d1 x.2 Fb:=HM2.out.au fun g hg=>by
    rw [HM2.out.2.2.2] at hg;obtain ⟨hg1,hg2⟩:=bz hg;have hgw:g<wr.heap.size:=HM2.out.lt g (by rw [HM2.out.2.2.2];exact hg)
    exact hh.up.up.block g hgw fun e=>e.elim (fun e=>HB1.out hg1 (by rw [hg2,e])) fun e=>HAB.out g e ⟨hg1,hg2⟩
   have HM22:=Lib.hid hm2;clear hs hmv hh hmw hkc hm2 hmu hs1 hBB e0 e1 e2 f0 f1
   go_wp2_with fail
   have hmu:Mk (fun i=>i∈F) w ((v.setCell ⟨b,off+j*6+3,none⟩ (.int .i64 (K+1+1+(x.1.v.length:Int)))).setCell ⟨b,off+j*6+3+1,none⟩ (.int .i64 (K+1+1+(x.1.v.length:Int)+1))):=(HMW.out.set b _ _ HBF.out).set b _ _ HBF.out
   have hs1:=(HM22.out.far (fun h=>HBN.out (List.mem_append_right _ h)) (zt v b (off+j*6+3) (.int .i64 (K+1+1+(x.1.v.length:Int))) (.int .i64 (K+1+1+(x.1.v.length:Int)+1)))).1
   have hBB:=HTT.out _ _ _ hmu HF2.out;refine (kB B1 _ d1 x.2.v (K+1+1+(x.1.v.length:Int)+1+1) _ hs1 hBB (by omega) (by omega)).mono ?_
   rintro e u ⟨rfl,hs,hmv⟩;have h2:=Fg.of HH.out.bl HB1.out hs hmv;have hmk2:Mk (fun i=>i∈F) w u:=hmu.trans hmv HF2.out
   have hri:RI smE u (some ⟨b,off,none⟩) n c (mkJ mkP ctP xs k (j+1)) F:=by
    rw [<- HNX.out];refine HRE.out u [.int .i64 (mkP x K).1.r,.int .i64 (mkP x K).1.c,.slice A1 (mkP x K).1.v.length c1,.int .i64 (mkP x K).2.r,.int .i64 (mkP x K).2.c,.slice B1 (mkP x K).2.v.length d1] (mkP x K) h2.bl.lt ?_ ?_ ?_ ?_
    ·intro g hg hgb hgn;obtain ⟨_,tg,cg,hcg,_⟩:=HF.out.2 g hg;have hgw:g<wr.heap.size:=Nat.lt_of_lt_of_le hcg.lt hmk.out.up.size;refine (h2.up.up.block g (Nat.lt_of_lt_of_le hgw HH.out.up.up.size) ?_).trans (HH.out.up.up.block g hgw ?_)
     ·rintro (e | e)
      ·exact hgb e
      ·exact hgn (List.mem_append_right _ (by rw [HM2.out.2.2.2];exact iH e.2 e.1))
     ·rintro (e | e)
      ·exact hgb e
      ·exact hgn (List.mem_append_left _ (by rw [HM1.out.2.2.2];exact iH e.2 e.1))
    ·intro o ho;have ho:o<off+j*6\/off+j*6+6<=o:=ho;rw [h2.bl.cell,HD.out.cell,Array.getElem?_setIfInBounds_ne (by omega),Array.getElem?_setIfInBounds_ne (by omega),Array.getElem?_setIfInBounds_ne (by omega),Array.getElem?_setIfInBounds_ne (by omega)]
    ·intro m hm;have hm:m<6:=hm;have hd:∀ i,i<6->dB[off+(j*6+i)]?=[Value.int .i64 x.1.r,.int .i64 x.1.c,.slice A1 x.1.v.length c1,.int .i64 x.2.r,.int .i64 x.2.c,.slice B1 x.2.v.length d1][i]?:=fun i hi=>by rw [<- HD.out.cell];exact HCC.out i hi
     have hz:=(Array.getElem?_eq_some_iff.1 (hd 5 (by omega))).1
     show u.cell? ⟨b,off+(j*6+m),none⟩=_
     rw [h2.bl.cell];simp only [Array.getElem?_setIfInBounds,Array.size_setIfInBounds];rcases (by omega:m=0\/m=1\/m=2\/m=3\/m=4\/m=5) with rfl | rfl | rfl | rfl | rfl | rfl
     ·rw [if_neg (by omega),if_neg (by omega),if_neg (by omega),if_pos (by omega),if_pos (by omega)];rfl
     ·rw [if_neg (by omega),if_neg (by omega),if_pos (by omega),if_pos (by omega)];rfl
     ·rw [if_neg (by omega),if_neg (by omega),if_neg (by omega),if_neg (by omega),hd 2 (by omega)];simp [mkP,mkV,bH]
     ·rw [if_neg (by omega),if_pos (by omega),if_pos (by omega)];simp [mkP,mkV];omega
     ·rw [if_pos (by omega),if_pos (by omega)];simp [mkP,mkV];omega
     ·rw [if_neg (by omega),if_neg (by omega),if_neg (by omega),if_neg (by omega),hd 5 (by omega)];simp [mkP,mkV,bH]
    ·refine ⟨A1,c1,B1,d1,Fa,Fb,rfl,⟨?_,by simp [mkP,mkV,bH];exact HM1.out.2.1,HM1.out.2.2.1,by simp [mkP,mkV,bH];exact HM1.out.2.2.2⟩,⟨?_,by simp [mkP,mkV,bH];exact HM2.out.2.1,HM2.out.2.2.1,by simp [mkP,mkV,bH];exact HM2.out.2.2.2⟩,rfl⟩
     ·have h:SI u A1 x.1.v.length (marks (K+1+1) x.1.v.length):=uw HH.out.si fun g hg=>by
       obtain ⟨h0,h1⟩:=bz hg;have hgv:g<v.heap.size:=by
        obtain ⟨_,tg,cg,hcg,_⟩:=HF.out.2 g (HF1.out g ⟨h0,h1⟩)
        exact Nat.lt_of_lt_of_le hcg.lt HMW.out.up.size
       exact h2.up.up.block g hgv fun e=>e.elim (fun e=>HA1.out h0 (by rw [h1,e])) fun e=>HAB.out g ⟨h0,h1⟩ e
      simp only [mkP,mkV,bH]
      rwa [show K+2=K+1+1 by omega]
     ·have h:=h2.si;simp only [mkP,mkV,bH]
      rwa [show K+2+(x.1.v.length:Int)+2=K+1+1+(x.1.v.length:Int)+1+1 by omega]
   have HRI:=Lib.hid hri;have HMK:=Lib.hid hmk2;have HQ:Hid (K+1+1+(x.1.v.length:Int)+1+1+(x.2.v.length:Int)=k+(ctA ctP (xs.take (j+1)):Int)):=by
    show _=_
    rw [HCT.out,HX4.out,HK.out]
    omega
   clear hs hmv h2 hmk2 hri hmu hs1 hBB e3 e4 e5 f3 f4;go_wp2
   go_roundw
   case rel=>exact ⟨j+1,by omega,by go_num,by rw [<- HQ.out],HRI,HMK⟩
   case measure=>simp [intOf];omega
  ·obtain rfl:j=n:=by omega
   have hfin:RI smE wr A j c (mkA mkP ctP xs k) F:=by
    have h:=hri.out;rw [<- HL.out,uh] at h;rw [<- HL.out]
    exact h
   have hall:xs.take j=xs:=List.take_of_length_le (by rw [HL.out];exact Nat.le_refl _)
   rw [hall];have HFI:=Lib.hid hfin;clear hfin hri hall;go_wp2
   go_ret
   exact ⟨rfl,HFI.out,hmk.out⟩
theorem jL (A:Option Addr) (n c:Nat) (xs:List (Int×List (Mx×Mx))) (F:List Nat) (k:Int) (b0:Nat) (w:World) (hx:RI (kE smE) w A n c xs F) (hf:Fr w b0 F) (bn:n<=1048576) (hs:∀ l,l∈xs->kS smS l) (hk:0<=k/\k+(ctA ctL xs:Int)<=4611686018427387904) :
  Calls Tryz.prog 67 #[.slice A n c,.int .i64 k] w fun e w'=>e= .returned (.int .i64 (k+(ctA ctL xs:Int)))/\RI (kE smE) w' A n c (mkA mkL ctL xs k) F/\Mk (fun i=>i∈F) w w':=by
 obtain ⟨k0,k1⟩:=hk;have HL:=Lib.hid hx.1;have HX:Hid (RI (kE smE) w A n c (mkJ mkL ctL xs k 0) F):=by rw [rV];exact hx
 have HF:=Lib.hid hf;have HS:=Lib.hid hs;clear hx hf hs
 go_enter Tryz.func67,Tryz.ntmps67
 go_wp2
 go_loopw [1,5] (fun q i wr=>∃ j:Nat,j<=n/\i= .int .i64 j/\q= .int .i64 (k+(ctA ctL (xs.take j):Int))/\Hid (RI (kE smE) wr A n c (mkJ mkL ctL xs k j) F)/\Hid (Mk (fun i=>i∈F) w wr)) (fun _ i _=>n-(intOf i).toNat)
 case atStart=>exact ⟨0,Nat.zero_le _,rfl,by simp [ctA],HX,Mk.refl w⟩
 case round =>
  clear HX;obtain ⟨j,hj,rfl,rfl,hri,hmk⟩:=hrel
  by_cases hlt:j<n
  ·obtain ⟨x,hxj,hmem⟩:=aH (xs:=xs) (j:=j) (by have:=HL.out;omega)
   have hct:=iF (c:=ctL) hxj;have hcl:=nd (c:=ctL) xs (j+1);obtain ⟨K,hK⟩:∃ K:Int,K=k+(ctA ctL (xs.take j):Int):=⟨_,rfl⟩;have hx4:ctL x=1+ctA ctP x.2:=rfl;have K0:0<=K:=by omega
   have K1:K+1+(ctA ctP x.2:Int)<=4611686018427387904:=by omega
   have HNX:=Lib.hid (rU (f:=mkL) (c:=ctL) (k:=k) hxj);rw [<- hK] at HNX ⊢;have HK:=Lib.hid hK;have HCT:=Lib.hid hct;have HX4:=Lib.hid hx4;clear hK hct hcl hx4;obtain ⟨b,off,cs,F2,rfl,hbF,hbn,hn2,hsub,hp,hc,hre⟩:=hri.out.focus HF.out.1 (wD hxj);obtain ⟨A1,c1,rfl,hr2⟩:=hp;obtain ⟨_,t,cB,hB0,_⟩:=HF.out.2 b hbF;obtain ⟨dB,hdB⟩:=hmk.out.ty b t cB hB0;have e0:wr.cell? ⟨b,off+j*2,none⟩=some (.int .i64 x.1):=hc 0 (by decide)
   have e1:wr.cell? ⟨b,off+j*2+1,none⟩=some (.slice A1 x.2.length c1):=hc 1 (by decide)
   have f0:=hdB.frozen (off+j*2);have lb:=hdB.lt;have HD:=Lib.hid hdB;have HRE:=Lib.hid hre;have HCC:=Lib.hid hc;have HR2:=Lib.hid hr2;have HBF:=Lib.hid hbF;have HBN:=Lib.hid hbn;have HN2:=Lib.hid hn2;have HSB:=Lib.hid hsub;clear hdB hre hc hr2 hbF hbn hn2 hsub hB0 hri
   go_wp2_with fail
   have hmu:Mk (fun i=>i∈F) w (wr.setCell ⟨b,off+j*2,none⟩ (.int .i64 K)):=hmk.out.set b _ _ HBF.out
   have hru:RI smE (wr.setCell ⟨b,off+j*2,none⟩ (.int .i64 K)) A1 x.2.length c1 x.2 F2:=HR2.out.au fun g hg=>Below.heap_setCell _ _ _ g fun e=>HBN.out (by have e:g=b:=e;rw [<- e];exact hg)
   have hfu:Fr (wr.setCell ⟨b,off+j*2,none⟩ (.int .i64 K)) b0 F2:=⟨HN2.out,fun g hg=>(HF.out.ty hmu.ty).2 g (HSB.out g hg)⟩
   refine (jl A1 _ c1 x.2 F2 (K+1) b0 _ hru hfu (HS.out x hmem).1 (HS.out x hmem).2 (by omega)).mono ?_
   rintro e u ⟨rfl,hr,hmv⟩;have hub:Blk u b t (dB.setIfInBounds (off+j*2) (.int .i64 K)):=(hmv.up.block b (by simpa [World.setCell] using lb) HBN.out).trans (HD.out.dc _ _)
   have hmk2:Mk (fun i=>i∈F) w u:=hmu.trans hmv HSB.out
   have hri:RI (kE smE) u (some ⟨b,off,none⟩) n c (mkJ mkL ctL xs k (j+1)) F:=by
    rw [<- HNX.out];refine HRE.out u [.int .i64 (mkL x K).1,.slice A1 (mkL x K).2.length c1] (mkL x K) hub.lt ?_ ?_ ?_ ?_
    ·intro g hg hgb hgn;obtain ⟨_,tg,cg,hcg,_⟩:=HF.out.2 g hg;have hgw:g<wr.heap.size:=Nat.lt_of_lt_of_le hcg.lt hmk.out.up.size
     exact (hmv.up.block g (by simpa [World.setCell] using hgw) hgn).trans (Below.heap_setCell _ _ _ g hgb)
    ·intro o ho;have ho:o<off+j*2\/off+j*2+2<=o:=ho;rw [hub.cell,HD.out.cell,Array.getElem?_setIfInBounds_ne (by omega)]
    ·intro m hm;have hm:m<2:=hm;have hd:∀ i,i<2->dB[off+(j*2+i)]?=[Value.int .i64 x.1,.slice A1 x.2.length c1][i]?:=fun i hi=>by rw [<- HD.out.cell];exact HCC.out i hi
     have hz:=(Array.getElem?_eq_some_iff.1 (hd 1 (by omega))).1
     show u.cell? ⟨b,off+(j*2+m),none⟩=_
     rw [hub.cell];simp only [Array.getElem?_setIfInBounds,Array.size_setIfInBounds];rcases (by omega:m=0\/m=1) with rfl | rfl
     ·rw [if_pos (by omega),if_pos (by omega)];rfl
     ·rw [if_neg (by omega),hd 1 (by omega)];simp [mkL,dY]
    ·refine ⟨A1,c1,rfl,?_⟩;simp only [mkL,dY]
     exact hr
   have HRI:=Lib.hid hri;have HMK:=Lib.hid hmk2;have HQ:Hid (K+1+(ctA ctP x.2:Int)=k+(ctA ctL (xs.take (j+1)):Int)):=by
    show _=_
    rw [HCT.out,HX4.out,HK.out]
    omega
   clear hr hmv hub hmk2 hri hmu hru hfu e0 e1 f0;go_wp2
   go_roundw
   case rel=>exact ⟨j+1,by omega,by go_num,by rw [<- HQ.out],HRI,HMK⟩
   case measure=>simp [intOf];omega
  ·obtain rfl:j=n:=by omega
   have hfin:RI (kE smE) wr A j c (mkA mkL ctL xs k) F:=by
    have h:=hri.out;rw [<- HL.out,uh] at h;rw [<- HL.out]
    exact h
   have hall:xs.take j=xs:=List.take_of_length_le (by rw [HL.out];exact Nat.le_refl _)
   rw [hall];have HFI:=Lib.hid hfin;clear hfin hri hall;go_wp2
   go_ret
   exact ⟨rfl,HFI.out,hmk.out⟩
theorem jk (A:Option Addr) (n c:Nat) (xs:List (Mx×Mx)) (F:List Nat) (k:Int) (w:World) (hx:RI smE w A n c (mkA mkP ctP xs k) F) (bn:n<=1048576) (hs:∀ p,p∈xs->smS p) (hk:0<=k/\k+(ctA ctP xs:Int)<=281474976710656) :
  Calls Tryz.prog 119 #[.slice A n c,.int .i64 k] w fun e w'=>e= .returned (.int .i64 (k+(ctA ctP xs:Int)))/\w=w':=by
 obtain ⟨k0,k1⟩:=hk;have HL:Hid (xs.length=n):=by rw [<- hx.1,dY];rfl
 have HX:=Lib.hid hx;have HS:=Lib.hid hs;clear hx hs
 go_enter Tryz.func119,Tryz.ntmps119
 go_wp2
 go_loop [1,5] (fun q i=>∃ j:Nat,j<=n/\i= .int .i64 j/\q= .int .i64 (k+(ctA ctP (xs.take j):Int))) (fun _ i=>n-(intOf i).toNat)
 case atStart=>exact ⟨0,Nat.zero_le _,rfl,by simp [ctA]⟩
 case round =>
  obtain ⟨j,hj,rfl,rfl⟩:=hrel
  by_cases hlt:j<n
  ·obtain ⟨x,hxj,hmem⟩:=aH (xs:=xs) (j:=j) (by have:=HL.out;omega)
   have hct:=iF (c:=ctP) hxj;have hcl:=nd (c:=ctP) xs (j+1);obtain ⟨K,hK⟩:∃ K:Int,K=k+(ctA ctP (xs.take j):Int):=⟨_,rfl⟩;have hx4:ctP x=4+x.1.v.length+x.2.v.length:=rfl;have K0:0<=K:=by omega
   have K1:K+4+(x.1.v.length:Int)+(x.2.v.length:Int)<=281474976710656:=by omega
   have hat:=qm (f:=mkP) (c:=ctP) (k:=k) hxj;rw [<- hK] at hat ⊢;obtain ⟨b,off,cs,F2,rfl,lb,hc,_,A1,c1,B1,d1,Fa,Fb,rfl,m1,m2,-⟩:=HX.out.cells hat 6 rfl;have hl1:x.1.v.length<=1048576:=(HS.out x hmem).1;have hl2:x.2.v.length<=1048576:=(HS.out x hmem).2;have e0:w.cell? ⟨b,off+j*6,none⟩=some (.int .i64 K):=hc 0 (by decide)
   have e1:w.cell? ⟨b,off+j*6+1,none⟩=some (.int .i64 (K+1)):=hc 1 (by decide)
   have e2:w.cell? ⟨b,off+j*6+2,none⟩=some (.slice A1 x.1.v.length c1):=(hc 2 (by decide)).trans (by simp [mkP,mkV,bH])
   have e3:w.cell? ⟨b,off+j*6+3,none⟩=some (.int .i64 (K+1+1+(x.1.v.length:Int))):=(hc 3 (by decide)).trans (by simp [mkP,mkV];omega)
   have e4:w.cell? ⟨b,off+j*6+4,none⟩=some (.int .i64 (K+1+1+(x.1.v.length:Int)+1)):=(hc 4 (by decide)).trans (by simp [mkP,mkV];omega)
   have e5:w.cell? ⟨b,off+j*6+5,none⟩=some (.slice B1 x.2.v.length d1):=(hc 5 (by decide)).trans (by simp [mkP,mkV,bH])
   have s1:SI w A1 x.1.v.length (marks (K+1+1) x.1.v.length):=by
    have h:=m1.1;simp only [mkP,mkV,bH] at h
    rwa [show K+1+1=K+2 by omega]
   have s2:SI w B1 x.2.v.length (marks (K+1+1+(x.1.v.length:Int)+1+1) x.2.v.length):=by
    have h:=m2.1;simp only [mkP,mkV,bH] at h
    rwa [show K+1+1+(x.1.v.length:Int)+1+1=K+2+(x.1.v.length:Int)+2 by omega]
   have HQ:Hid (K+1+1+(x.1.v.length:Int)+1+1+(x.2.v.length:Int)=k+(ctA ctP (xs.take (j+1)):Int)):=by
    show _=_
    omega
   have HS1:=Lib.hid s1;have HS2:=Lib.hid s2;clear hK hct hcl hx4 hat hc m1 m2 s1 s2
   go_wp2_with fail
   refine (nL A1 _ c1 (K+1+1) w HS1.out (by omega) (by omega)).mono ?_
   rintro e u ⟨rfl,rfl⟩
   go_wp2_with fail
   refine (nL B1 _ d1 (K+1+1+(x.1.v.length:Int)+1+1) w HS2.out (by omega) (by omega)).mono ?_
   rintro e u ⟨rfl,rfl⟩;go_wp2
   go_round
   case rel=>exact ⟨j+1,by omega,by go_num,by rw [<- HQ.out]⟩
   case measure=>simp [intOf];omega
  ·obtain rfl:j=n:=by omega
   have hall:xs.take j=xs:=List.take_of_length_le (by rw [HL.out];exact Nat.le_refl _)
   rw [hall];go_wp2
   go_ret
   exact ⟨rfl,rfl⟩
theorem jK (A:Option Addr) (n c:Nat) (xs:List (Int×List (Mx×Mx))) (F:List Nat) (k:Int) (w:World) (hx:RI (kE smE) w A n c (mkA mkL ctL xs k) F) (bn:n<=1048576) (hs:∀ l,l∈xs->kS smS l) (hk:0<=k/\k+(ctA ctL xs:Int)<=281474976710656) :
  Calls Tryz.prog 68 #[.slice A n c,.int .i64 k] w fun e w'=>e= .returned (.int .i64 (k+(ctA ctL xs:Int)))/\w=w':=by
 obtain ⟨k0,k1⟩:=hk;have HL:Hid (xs.length=n):=by rw [<- hx.1,dY];rfl
 have HX:=Lib.hid hx;have HS:=Lib.hid hs;clear hx hs
 go_enter Tryz.func68,Tryz.ntmps68
 go_wp2
 go_loop [1,5] (fun q i=>∃ j:Nat,j<=n/\i= .int .i64 j/\q= .int .i64 (k+(ctA ctL (xs.take j):Int))) (fun _ i=>n-(intOf i).toNat)
 case atStart=>exact ⟨0,Nat.zero_le _,rfl,by simp [ctA]⟩
 case round =>
  obtain ⟨j,hj,rfl,rfl⟩:=hrel
  by_cases hlt:j<n
  ·obtain ⟨x,hxj,hmem⟩:=aH (xs:=xs) (j:=j) (by have:=HL.out;omega)
   have hct:=iF (c:=ctL) hxj;have hcl:=nd (c:=ctL) xs (j+1);obtain ⟨K,hK⟩:∃ K:Int,K=k+(ctA ctL (xs.take j):Int):=⟨_,rfl⟩;have hx4:ctL x=1+ctA ctP x.2:=rfl;have K0:0<=K:=by omega
   have K1:K+1+(ctA ctP x.2:Int)<=281474976710656:=by omega
   have hat:=qm (f:=mkL) (c:=ctL) (k:=k) hxj;rw [<- hK] at hat ⊢;obtain ⟨b,off,cs,F2,rfl,lb,hc,_,A1,c1,rfl,hr⟩:=HX.out.cells hat 2 rfl;have e0:w.cell? ⟨b,off+j*2,none⟩=some (.int .i64 K):=hc 0 (by decide)
   have e1:w.cell? ⟨b,off+j*2+1,none⟩=some (.slice A1 x.2.length c1):=(hc 1 (by decide)).trans (by simp [mkL,dY])
   have s1:RI smE w A1 x.2.length c1 (mkA mkP ctP x.2 (K+1)) F2:=by
    simp only [mkL,dY] at hr
    exact hr
   have HQ:Hid (K+1+(ctA ctP x.2:Int)=k+(ctA ctL (xs.take (j+1)):Int)):=by
    show _=_
    omega
   have HS1:=Lib.hid s1;clear hK hct hcl hx4 hat hc hr s1
   go_wp2_with fail
   refine (jk A1 _ c1 x.2 F2 (K+1) w HS1.out (HS.out x hmem).1 (HS.out x hmem).2 (by omega)).mono ?_
   rintro e u ⟨rfl,rfl⟩;go_wp2
   go_round
   case rel=>exact ⟨j+1,by omega,by go_num,by rw [<- HQ.out]⟩
   case measure=>simp [intOf];omega
  ·obtain rfl:j=n:=by omega
   have hall:xs.take j=xs:=List.take_of_length_le (by rw [HL.out];exact Nat.le_refl _)
   rw [hall];go_wp2
   go_ret
   exact ⟨rfl,rfl⟩
theorem TyK.alloc (w:World) (o:Obj):TyK w (w.alloc o):=fun g t cs h=>⟨cs,h.alloc o⟩
theorem jt {net:List (Int×List (Mx×Mx))} {s:Int} {A:Option Addr} {n c:Nat} {F:List Nat} (k:Int) (b0:Nat) (w:World) (hx:RI (kE smE) w A n c net F) (hf:Fr w b0 F) (bn:n<=1048576) (hs:∀ l,l∈net->kS smS l) (hk:0<=k/\k+(ctA ctL net:Int)<=4611686018427387904) :
  Calls Tryz.prog 20 #[.agg #[.slice A n c,.int .i64 s],.int .i64 k] w fun e w'=>e= .returned (.int .i64 (k+(ctA ctL net:Int)))/\RI (kE smE) w' A n c (mkA mkL ctL net k) F/\Mk (fun i=>i∈F) w w':=by
 obtain ⟨u,hu⟩:∃ u,u=w.alloc (.cells #[.slice A n c,.int .i64 s] 25):=⟨_,rfl⟩;have hb:Below w.heap.size w u:=by rw [hu];exact (Below.refl _ _).alloc (Nat.le_refl _) _
 have ty:TyK w u:=by rw [hu];exact TyK.alloc _ _
 have HW:Hid (∀ Q,(∀ e w',(e= .returned (.int .i64 (k+(ctA ctL net:Int)))/\RI (kE smE) w' A n c (mkA mkL ctL net k) F/\Mk (fun i=>i∈F) u w')->Q e w')->Calls Tryz.prog 67 #[.slice A n c,.int .i64 k] u Q):=fun Q h=>(jL A n c net F k b0 u (hx.below hb) (hf.ty ty) bn hs hk).mono h
 have HB:=Lib.hid hb;have HT:=Lib.hid ty;clear hb ty hx hf hs
 go_in
 go_wp2_with fail
 rw [<- hu];refine HW.out _ ?_;rintro e w' ⟨rfl,hr,hm⟩;have HR:=Lib.hid hr;have HM:=Lib.hid hm;clear hr hm;go_wp2
 go_ret
 exact ⟨rfl,HR.out,⟨(UpL.eW HB.out).trans HM.out.up fun _ _ h=>h,HT.out.trans HM.out.ty⟩⟩
theorem js {net:List (Int×List (Mx×Mx))} {s:Int} {A:Option Addr} {n c:Nat} {F:List Nat} (k:Int) (w:World) (hx:RI (kE smE) w A n c (mkA mkL ctL net k) F) (bn:n<=1048576) (hs:∀ l,l∈net->kS smS l) (hk:0<=k/\k+(ctA ctL net:Int)<=281474976710656) :
  Calls Tryz.prog 21 #[.agg #[.slice A n c,.int .i64 s],.int .i64 k] w fun e w'=>e= .returned (.int .i64 (k+(ctA ctL net:Int)))/\Below w.heap.size w w':=by
 obtain ⟨u,hu⟩:∃ u,u=w.alloc (.cells #[.slice A n c,.int .i64 s] 25):=⟨_,rfl⟩;have hb:Below w.heap.size w u:=by rw [hu];exact (Below.refl _ _).alloc (Nat.le_refl _) _
 have HW:Hid (∀ Q,(∀ e w',(e= .returned (.int .i64 (k+(ctA ctL net:Int)))/\u=w')->Q e w')->Calls Tryz.prog 68 #[.slice A n c,.int .i64 k] u Q):=fun Q h=>(jK A n c net F k u (hx.below hb) bn hs hk).mono h
 have HB:=Lib.hid hb;have k0:0<=k+(ctA ctL net:Int):=by omega
 clear hb hx hs
 go_in
 go_wp2_with fail
 rw [<- hu];refine HW.out _ ?_;rintro e w' ⟨rfl,rfl⟩;go_wp2
 go_ret
 exact ⟨rfl,by rw [<- hu];exact HB.out⟩
end
section
open Go.RowKit Go.ChangeShapes Go.WideShapes Go.ChangeAt
def tJ {α:Type} (E:Elt α) (t:TypeId):Prop:=∀ (H:Type) (enc:TypeId×Value->H) (W:World) (base:Nat) (spare:Nat->Bool) (held:Bool) (fuel:Nat) (cs:List Value) (x:DataW H×List MemPlace),
 DataW.trod enc Tryz.prog W base spare held fuel t cs=some x->∃ a F,E.P W cs a F
theorem mX (b off k:Nat):(⟨b,off,none⟩:Addr).add k=⟨b,off+k,none⟩:=by
 unfold Addr.add
 by_cases hk:k=0
 ·subst hk;simp
 ·simp [hk]
theorem dJ.zk {α:Type} {E:Elt α} {w:World} {f:Nat->List Value} {g:Nat->α} {h:Nat->List Nat}:∀ n:Nat,(∀ i,i<n->E.P w (f i) (g i) (h i))->dJ E w ((List.range n).map f) ((List.range n).map g) ((List.range n).flatMap h)
 | 0,_=>rfl
 | n+1,hp=>by
  have:=(dJ.zk n (fun i hi=>hp i (by omega))).push (hp n (by omega))
  simpa [List.range_succ] using this
theorem nc:Tryz.prog.cellsOf 3=1:=by kernel_rfl
theorem uH:Tryz.prog.cellsOf 35=1:=by kernel_rfl
theorem tN:Tryz.prog.cellsOf 231=3:=by kernel_rfl
theorem tP:Tryz.prog.cellsOf 233=6:=by kernel_rfl
theorem tO:Tryz.prog.cellsOf 158=2:=by kernel_rfl
theorem vI:Tryz.prog.cellsOf 156=1:=by kernel_rfl
theorem r9:tJ mxE 231:=by
 intro H enc W base spare held fuel cs x h;obtain ⟨y0,y1,y2,n,_,hl,h0,h1,h2⟩:=Go.Deep.trod_struct3 Tryz.underlying231 h;rw [tN] at hl
 dsimp only at h0 h1 h2
 rw [nc] at h0 h1;rw [uH] at h2
 match cs,hl with
 | [c0,c1,c2],_ =>
  obtain ⟨r,e0,_,_⟩:=DataW.trod_int Tryz.underlying3 h0;obtain ⟨c,e1,_,_⟩:=DataW.trod_int Tryz.underlying3 h1
  simp at e0 e1
  subst e0 e1;rcases open_ints Tryz.underlying35 Tryz.underlying3 nc h2 with ⟨hcs,_⟩ | ⟨a,len,cap,zs,hcs,_,hl,hm,hz,_,hcell,_⟩
  ·simp at hcs
   subst hcs
   exact ⟨⟨r,c,[]⟩,[],none,0,rfl,SI.nil _ _,Nat.le_refl _,by unfold maxLen;omega,rfl⟩
  ·simp at hcs
   subst hcs;have hzl:len<=zs.length:=by rw [hz];split <;> omega
   have hv:(zs.take len).length=len:=by simp;omega
   refine ⟨⟨r,c,zs.take len⟩,fpI (some a) len,some a,cap,?_,?_,?_,hm,?_⟩
   ·dsimp only;rw [hv]
   ·dsimp only
    refine ⟨rfl,fun h0=> ?_⟩
    rw [hv] at h0 ⊢;obtain ⟨b,off,spot⟩:=a;have h1:=hcell 0 (by omega)
    have hs:spot=none:=by simpa [Addr.add] using World.cell?_spot h1
    subst hs;have hb:=World.block_lt_of_cell? W _ h1;refine ⟨b,off,rfl,by simpa [Addr.add] using hb,fun i hi=> ?_⟩
    have:=hcell i (by omega)
    rw [mX] at this;rw [this]
    simp [List.getElem?_take,hi]
   ·dsimp only;rw [hv];exact hl
   ·dsimp only;rw [hv]
theorem wN:tJ smE 233:=by
 intro H enc W base spare held fuel cs x h;obtain ⟨y0,y1,n,_,hl,h0,h1⟩:=trod_struct2 Tryz.underlying233 h;rw [tP] at hl
 dsimp only at h0 h1
 rw [tN] at h0 h1
 match cs,hl with
 | [c0,c1,c2,c3,c4,c5],_ =>
  obtain ⟨a,Fa,A,c,e0,ma⟩:=r9 H enc W base spare held n _ _ h0;obtain ⟨b,Fb,B,d,e1,mb⟩:=r9 H enc W base spare held n _ _ h1
  simp at e0 e1
  obtain ⟨rfl,rfl,rfl⟩:=e0;obtain ⟨rfl,rfl,rfl⟩:=e1
  exact ⟨(a,b),Fa++Fb,A,c,B,d,Fa,Fb,rfl,ma,mb,rfl⟩
theorem pC {α:Type} {E:Elt α} {t e:TypeId} (ht:Tryz.prog.underlying t=some (.slice e)) (hc:Tryz.prog.cellsOf e=E.s) (hs0:0<E.s) (hE:tJ E e) (H:Type) (enc:TypeId×Value->H) (W:World) (base:Nat) (spare:Nat->Bool) (held:Bool) (fuel:Nat) (cs:List Value) (x:DataW H×List MemPlace)
  (h:DataW.trod enc Tryz.prog W base spare held fuel t cs=some x):∃ A n cap xs F,cs=[.slice A n cap]/\RI E W A n cap xs F:=by
 rcases Go.Deep.open_slice ht h with ⟨rfl,_⟩ | ⟨a,len,cap,m,n,D,Pl,rfl,_,hl,hm,hmm,_,hx⟩
 ·exact ⟨none,0,0,[],[],rfl,RI.nil W none (by unfold maxLen;omega)⟩
 ·by_cases h0:len=0
  ·subst h0
   exact ⟨some a,0,cap,[],[],rfl,RI.nil W (some a) hm⟩
  ·have hlm:len<=m:=by rw [hmm];split <;> omega
   have hel:∀ i,i<len->∃ q:List Value×α×List Nat,(∀ j,j<E.s->W.cell? ((a.add (i*E.s)).add j)=q.1[j]?)/\q.1.length=E.s/\E.P W q.1 q.2.1 q.2.2:=by
    intro i hi;obtain ⟨cs',h1,h2⟩:=hx i (by omega)
    rw [hc] at h1;obtain ⟨_,hlen,hcell⟩:=World.cells?_some h1;obtain ⟨b,F,hP⟩:=hE H enc W base spare held n cs' _ h2
    exact ⟨(cs',b,F),hcell,hlen,hP⟩
   obtain ⟨q0,_⟩:=hel 0 (by omega)
   haveI:Inhabited (List Value×α×List Nat):=⟨q0⟩
   obtain ⟨f,hf⟩:=Go.Deep.choose_lt hel;obtain ⟨b,off,spot⟩:=a;have hc0:∃ v,W.cell? ((⟨b,off,spot⟩:Addr).add 0)=some v:=by
    have h1:=(hf 0 (by omega)).1 0 hs0
    have h2:=(hf 0 (by omega)).2.1
    rw [Nat.zero_mul] at h1;have h3:(f 0).1[0]?=some (f 0).1[0]:=List.getElem?_eq_getElem (by omega)
    rw [h3] at h1
    exact ⟨_,by simpa [Addr.add] using h1⟩
   obtain ⟨v0,hv0⟩:=hc0;have hs:spot=none:=by simpa [Addr.add] using World.cell?_spot hv0
   subst hs;have hb:=World.block_lt_of_cell? W _ hv0;refine ⟨some ⟨b,off,none⟩,len,cap,(List.range len).map fun i=>(f i).2.1,_,rfl,by simp,hl,hm,.inr ⟨b,off,(List.range len).map fun i=>(f i).1,_,rfl,by simpa [Addr.add] using hb,rfl,dJ.zk (f:=fun i=>(f i).1) (g:=fun i=>(f i).2.1) (h:=fun i=>(f i).2.2) len (fun i hi=>(hf i hi).2.2),?_⟩⟩
   intro i cs' hi j hj;have hil:i<len:=by
    have:=(List.getElem?_eq_some_iff.1 hi).1
    simpa using this
   have e:(f i).1=cs':=by simpa [hil] using hi
   have:=(hf i hil).1 j hj;rw [mX,mX,Nat.add_assoc,e] at this
   exact this
theorem wM:tJ (kE smE) 158:=by
 intro H enc W base spare held fuel cs x h;obtain ⟨y0,y1,n,_,hl,h0,h1⟩:=trod_struct2 Tryz.underlying158 h;rw [tO] at hl
 dsimp only at h0 h1
 rw [nc] at h0;rw [vI] at h1
 match cs,hl with
 | [c0,c1],_ =>
  obtain ⟨k,e0,_,_⟩:=DataW.trod_int Tryz.underlying3 h0
  simp at e0
  subst e0;obtain ⟨A,m,cap,xs,F,e1,hr⟩:=pC Tryz.underlying156 tP (by decide) wN H enc W base spare held n _ _ h1
  simp at e1
  subst e1;obtain rfl:=hr.1
  exact ⟨(k,xs),F,A,cap,rfl,hr⟩
theorem uW (H:Type) (enc:TypeId×Value->H) (W:World) (base:Nat) (spare:Nat->Bool) (held:Bool) (fuel:Nat) (v:Value) (x:DataW H×List MemPlace)
  (h:DataW.trod enc Tryz.prog W base spare held fuel 41 [v]=some x):∃ A n cap xs F,v= .slice A n cap/\RI (kE smE) W A n cap xs F:=by
 obtain ⟨A,m,cap,xs,F,e1,hr⟩:=pC Tryz.underlying41 tO (by decide) wM H enc W base spare held fuel _ _ h
 simp at e1
 exact ⟨A,m,cap,xs,F,e1,hr⟩
end
end Go.Proofs.YtjciicheoghcdaaGreatDoor
