/- Part of the proof that the law FnServiceLine of the given program returns true for every input. -/
import Derived.Test.YtjciicheoghcdaaGreatDoorXH
import Derived.Test.YtjciicheoghcdaaGreatDoorXL
namespace Go.Proofs.YtjciicheoghcdaaGreatDoor
open Go.RowKit
set_option linter.unusedSimpArgs false
set_option linter.unusedVariables false
set_option maxRecDepth 20000
set_option maxHeartbeats 16000000
theorem xE {c:UInt8} {t:List UInt8} {s:ByteArray} (h:s=bs (c::t)):s.extract 1 s.size=bs t:=by
 subst h
 exact na (c::t)
theorem iP (l:List UInt8) (hl:l.length<=1048576) (w:World):Calls Tryz.prog 88 #[.string (bs l)] w (Rv l w):=by
 obtain ⟨s,hs⟩:∃ s,s=bs l:=⟨_,rfl⟩;rw [<- hs];have hss:s.size=l.length:=by rw [hs,aK]
 have HS:=Lib.hid hs
 cases l with
 | nil =>
  have hz:s.toList.isEmpty=true:=by rw [mm];exact (jo _ _).2 (by rw [hs];rfl)
  have hz2:s.size=0:=by rw [hss];rfl
  have HR:Hid (RF [] 0 false):= .inr ⟨rfl,rfl,fun x _ _=>y9 x⟩
  clear hs hss hl
  go_enter Tryz.func88,Tryz.ntmps88
  go_wp2_with fail
  refine wp_loop_rounds 1 ?_;rw [rounds_succ]
  go_wp2_with fail
  refine (bG 0 w).mono ?_;rintro e w' ⟨rfl,rfl⟩
  go_wp2_with fail
  go_wp2
  go_ret2
  exact ⟨0,false,rfl,HR.out,Below.refl _ _⟩
 | cons c0 t0 =>
  have hz:s.toList.isEmpty=false:=by rw [mm];exact iE (fun e=>by have:=gU (b:=[]) (hs.symm.trans e);cases this)
  have hs0:0<s.size:=by rw [hss];simp
  obtain ⟨hx0,hb0⟩:=jY (c0::t0) hs 0 hs0;have hc0:(s[0].toNat:Int)=(c0.toNat:Int):=by rw [<- hb0];rfl
  have hsI:(s.size:Int)<=1048576:=by rw [hss];omega
  by_cases hneg:c0=45
  ·have hc1:(c0.toNat:Int)=45:=by rw [hneg];rfl
   obtain ⟨b,hb⟩:∃ b,s.extract 1 s.size=b:=⟨_,rfl⟩;obtain ⟨t,ht⟩:∃ t,t=t0:=⟨_,rfl⟩;have HB:Hid (b=bs t):=by show _=_;rw [<- hb,ht];exact xE hs
   have HBS:Hid (t.length=b.size):=by show _=_;rw [HB.out,aK]
   have hbI:(b.size:Int)<=1048576:=by rw [<- HBS.out,ht];rw [hss,List.length_cons] at hsI;omega
   have HLT:Hid (c0::t0=45::t):=by show _=_;rw [hneg,ht]
   obtain ⟨l,hll⟩:∃ l,l=c0::t0:=⟨_,rfl⟩;rw [<- hll] at HLT HS ⊢;clear hs hss hl hx0 hb0 hneg ht hll
   go_enter Tryz.func88,Tryz.ntmps88
   go_wp2_with fail
   go_loop [6,7] (fun q i=>∃ (k:Nat) (n:Int),k<=b.size/\i= .int .i64 k/\q= .int .i64 n/\Hid (E1 t k n)) (fun _ i=>b.size-(intOf i).toNat)
   case atStart=>exact ⟨0,0,Nat.zero_le _,rfl,rfl,E1.start t⟩
   case round =>
    obtain ⟨k,n,hk,rfl,rfl,he⟩:=hrel;obtain ⟨n0,n1⟩:=he.out.bd;have k0:(0:Int)<=(k:Int):=by omega
    by_cases hlt:k<b.size
    case' neg =>
     have hltI:(b.size:Int)<=(k:Int):=by omega
     have HST:Hid (Stop t k):=fun h _=>by exfalso;have:=HBS.out;omega
     have HNO:Hid (t[k]?≠some 46):=by rw [Hid,List.getElem?_eq_none (by have:=HBS.out;omega)];intro e;cases e
    case' pos =>
     have hltI:(k:Int)<(b.size:Int):=by omega
     obtain ⟨hkl,hbk⟩:=jY t HB.out k hlt;obtain ⟨y,hy⟩:∃ y:Int,(b[k].toNat:Int)=y:=⟨_,rfl⟩;have HY:Hid ((t[k].toNat:Int)=y):=by show _=_;rw [hbk];exact hy
     clear hbk
     by_cases h4:k<4
     case' neg =>
      have h4I:(4:Int)<=(k:Int):=by omega
      have HST:Hid (Stop t k):=fun _ h=>absurd h h4
     case' pos =>
      have h4I:(k:Int)<4:=by omega
      by_cases hd:48<=y/\y<=57
      case pos =>
       obtain ⟨d0,d1⟩:=hd;have hst:=he.out.step hkl h4 (rK (by have:=HY.out;omega))
       rw [HY.out] at hst;have hbd:=hst.bd;obtain ⟨b0,b1⟩:=hbd;have HST4:=Lib.hid hst;have e10:10*n=n*10:=Int.mul_comm _ _;have q1:=IntWalk.i64_in (n*10) (by omega)
       have q2:=IntWalk.i64_in (n*10+(y-48)) (by omega)
       clear hst he;go_wp2
       go_round
       case rel=>exact ⟨k+1,n*10+(y-48),by omega,by go_num,by go_num,HST4.out⟩
       case measure=>simp [intOf];omega
      case' neg =>
       have HST:Hid (Stop t k):=fun _ _=>rJ (by have:=HY.out;omega)
       rcases Int.lt_or_le y 48 with hd1 | hd1
       case' inr=>have hd2:57<y:=by omega
       all_goals clear hd
     all_goals
      by_cases hyd:y=46
      case' neg =>
       have HNO:Hid (t[k]?≠some 46):=by rw [Hid,List.getElem?_eq_getElem hkl];intro e;injection e with e;have:=HY.out;rw [e] at this;exact hyd (by have e2:(46:UInt8).toNat=46:=rfl;omega)
       have hydb:(y == 46)=false:=beq_eq_false_iff_ne.2 hyd;clear hyd
      case pos =>
       first
       | (exfalso;omega)
       | (
        have hyd2:y=46:=hyd;subst hyd2;have hkk:k<b.size:=hlt;have HDOT:Hid (t[k]?=some 46):=by show _=_;rw [List.getElem?_eq_getElem hkl];congr 1;exact UInt8.toNat_inj.1 (by have:=HY.out;have e:(46:UInt8).toNat=46:=rfl;omega)
        go_wp2_with fail
        go_loop [7,8,9,10] (fun q1 q2 q3 q4=>∃ (i j:Nat) (p sc:Int),q1= .int .i64 i/\q2= .int .i64 p/\q3= .int .i64 sc/\q4= .int .i64 j/\j<=4/\i<=b.size/\Hid (i=k+1+j)/\Hid (E2 (t.drop (k+1)) j p sc)) (fun _ _ _ q=>4-(intOf q).toNat)
        case atStart=>exact ⟨k+1,0,0,10000,by go_num,rfl,rfl,rfl,by omega,by omega,rfl,E2.start _⟩
        case round =>
         obtain ⟨i,j,p,sc,rfl,rfl,rfl,rfl,hj4,hi,hij,he2⟩:=hrel;obtain ⟨p0,p1,s0,s1⟩:=he2.out.bd;obtain ⟨n0,n1⟩:=he.out.bd;have i0:(0:Int)<=(i:Int):=by omega
         have j0:(0:Int)<=(j:Int):=by omega
         have HD:Hid ((t.drop (k+1)).length=b.size-(k+1)):=by show _=_;rw [List.length_drop,HBS.out]
         by_cases hj:j<4
         case' neg =>
          have hjI:(4:Int)<=(j:Int):=by omega
          have HST2:Hid (Stop (t.drop (k+1)) j):=fun _ h=>absurd h hj
         case' pos =>
          have hjI:(j:Int)<4:=by omega
          by_cases hib:i<b.size
          case' neg =>
           have hibI:(b.size:Int)<=(i:Int):=by omega
           have HST2:Hid (Stop (t.drop (k+1)) j):=fun h _=>by exfalso;have h1:=HD.out;have h2:=hij.out;omega
          case' pos =>
           have hibI:(i:Int)<(b.size:Int):=by omega
           have hDl:j<(t.drop (k+1)).length:=by have h1:=HD.out;have h2:=hij.out;omega
           obtain ⟨hil,hbi⟩:=jY t HB.out i hib;obtain ⟨z,hz⟩:∃ z:Int,(b[i].toNat:Int)=z:=⟨_,rfl⟩;have HZ:Hid (((t.drop (k+1))[j].toNat:Int)=z):=by
            show _=_
            rw [<- hz,<- hbi,List.getElem_drop]
            congr 3
            exact hij.out.symm
           clear hbi
           by_cases hd:48<=z/\z<=57
           case pos =>
            obtain ⟨z0,z1⟩:=hd;obtain ⟨s2,h10,hs2,hs3,hs4,hs5⟩:=he2.out.sc hj;have hst:=he2.out.step hDl hj (rK (by have:=HZ.out;omega)) hs2 hs3
            rw [HZ.out] at hst;have hm:0<=s2*(z-48)/\s2*(z-48)<=1000*9:=⟨Int.mul_nonneg (by omega) (by omega),Int.mul_le_mul (by omega) (by omega) (by omega) (by omega)⟩
            have q1:=IntWalk.i64_in (s2*(z-48)) (by omega)
            have q2:=IntWalk.i64_in (p+s2*(z-48)) (by omega)
            have hs0:0<=sc:=by omega
            have HST4:=Lib.hid hst;have HIJ:=Lib.hid (show i+1=k+1+(j+1) by have:=hij.out;omega)
            clear hst hs2 hs3 hij he2 hm;go_wp2
            go_round
            case rel=>exact ⟨i+1,j+1,_,s2,by go_num,rfl,by rw [h10],by go_num,by omega,by omega,HIJ.out,HST4.out⟩
            case measure=>simp [intOf];omega
           case' neg =>
            have HST2:Hid (Stop (t.drop (k+1)) j):=fun _ _=>rJ (by have:=HZ.out;omega)
            clear HZ;rcases Int.lt_or_le z 48 with hd1 | hd1
            case' inr=>have hd2:57<z:=by omega
            all_goals clear hd
         all_goals
          have HE3:Hid (E3 t (n*16+p/625)):=⟨k,n,he.out,HST.out,.inr ⟨HDOT.out,j,p,sc,he2.out,HST2.out,rfl⟩⟩;have r0:0<=p/625:=by omega
          have r1:=IntWalk.i64_in (n*16) (by omega)
          have r2:=IntWalk.i64_in (n*16+p/625) (by omega)
          have r3:=IntWalk.i64_in (-(n*16+p/625)) (by omega)
          obtain ⟨v,hv⟩:∃ v,v=(-(n*16+p/625))%4096:=⟨_,rfl⟩;have hv0:0<=v/\v<=4095:=by rw [hv];omega
          have HVV:=Lib.hid hv;have HNN:Hid (∀ x,0<=x->x<=4095->fx x=l->v=x):=fun x h0 h1 e=>by rw [HVV.out];exact E3.neg HLT.out HE3.out x h0 h1 e
          clear hv HE3
          go_wp2_with fail
          refine (bG (-(n*16+p/625)) w).mono ?_;rintro e w' ⟨rfl,rfl⟩;rw [<- HVV.out]
          go_wp2_with fail
          refine (dM v hv0 w).mono ?_;rintro e w2 ⟨rfl,hb2⟩;have HB2:=Lib.hid hb2;clear hb2
          by_cases hf:fx v=l
          ·have hR:=Lib.hid (RF.yes hv0 hf);have hne:((bs (fx v)).toList == s.toList)=true:=by rw [<- Go.beq_toListBytes,jo,HS.out,hf]
           clear hf;go_wp2
           go_ret2
           exact ⟨v,true,rfl,hR.out,HB2.out⟩
          ·have hR:=Lib.hid (RF.noS HNN.out hf);have hne:((bs (fx v)).toList == s.toList)=false:=by rw [<- Go.beq_toListBytes];exact iE (fun e=>hf (gU (by rw [<- HS.out];exact e)))
           clear hf;go_wp2
           go_ret2
           exact ⟨0,false,rfl,hR.out,HB2.out⟩)
    all_goals
     have HE3:Hid (E3 t (n*16)):=⟨k,n,he.out,HST.out,.inl ⟨HNO.out,rfl⟩⟩;have r1:=IntWalk.i64_in (n*16) (by omega)
     have r3:=IntWalk.i64_in (-(n*16)) (by omega)
     obtain ⟨v,hv⟩:∃ v,v=(-(n*16))%4096:=⟨_,rfl⟩;have hv0:0<=v/\v<=4095:=by rw [hv];omega
     have HVV:=Lib.hid hv;have HNN:Hid (∀ x,0<=x->x<=4095->fx x=l->v=x):=fun x h0 h1 e=>by rw [HVV.out];exact E3.neg HLT.out HE3.out x h0 h1 e
     clear hv HE3
     go_wp2_with fail
     refine (bG (-(n*16)) w).mono ?_;rintro e w' ⟨rfl,rfl⟩;rw [<- HVV.out]
     go_wp2_with fail
     refine (dM v hv0 w).mono ?_;rintro e w2 ⟨rfl,hb2⟩;have HB2:=Lib.hid hb2;clear hb2
     by_cases hf:fx v=l
     ·have hR:=Lib.hid (RF.yes hv0 hf);have hne:((bs (fx v)).toList == s.toList)=true:=by rw [<- Go.beq_toListBytes,jo,HS.out,hf]
      clear hf;go_wp2
      go_ret2
      exact ⟨v,true,rfl,hR.out,HB2.out⟩
     ·have hR:=Lib.hid (RF.noS HNN.out hf);have hne:((bs (fx v)).toList == s.toList)=false:=by rw [<- Go.beq_toListBytes];exact iE (fun e=>hf (gU (by rw [<- HS.out];exact e)))
      clear hf;go_wp2
      go_ret2
      exact ⟨0,false,rfl,hR.out,HB2.out⟩
  ·have hc1:((c0.toNat:Int) == 45)=false:=by
    rw [beq_eq_false_iff_ne];intro h
    exact hneg (UInt8.toNat_inj.1 (by have e:(45:UInt8).toNat=45:=rfl;omega))
   obtain ⟨l,hll⟩:∃ l,l=c0::t0:=⟨_,rfl⟩;have HLT:=Lib.hid hll;have HB45:=Lib.hid hneg;rw [<- hll] at HS hs hss ⊢;have HB:=Lib.hid hs;have HBS:=Lib.hid hss.symm;have hs00:=Lib.hid hs0;clear hs hss hl hx0 hb0 hneg hll
   go_enter Tryz.func88,Tryz.ntmps88
   go_wp2_with fail
   go_loop [6,7] (fun q i=>∃ (k:Nat) (n:Int),k<=s.size/\i= .int .i64 k/\q= .int .i64 n/\Hid (E1 l k n)) (fun _ i=>s.size-(intOf i).toNat)
   case atStart=>exact ⟨0,0,Nat.zero_le _,rfl,rfl,E1.start l⟩
   case round =>
    obtain ⟨k,n,hk,rfl,rfl,he⟩:=hrel;obtain ⟨n0,n1⟩:=he.out.bd;have k0:(0:Int)<=(k:Int):=by omega
    by_cases hlt:k<s.size
    case' neg =>
     have hltI:(s.size:Int)<=(k:Int):=by omega
     have HST:Hid (Stop l k):=fun h _=>by exfalso;have:=HBS.out;omega
     have HNO:Hid (l[k]?≠some 46):=by rw [Hid,List.getElem?_eq_none (by have:=HBS.out;omega)];intro e;cases e
    case' pos =>
     have hltI:(k:Int)<(s.size:Int):=by omega
     obtain ⟨hkl,hbk⟩:=jY l HB.out k hlt;obtain ⟨y,hy⟩:∃ y:Int,(s[k].toNat:Int)=y:=⟨_,rfl⟩;have HY:Hid ((l[k].toNat:Int)=y):=by show _=_;rw [hbk];exact hy
     clear hbk
     by_cases h4:k<4
     case' neg =>
      have h4I:(4:Int)<=(k:Int):=by omega
      have HST:Hid (Stop l k):=fun _ h=>absurd h h4
     case' pos =>
      have h4I:(k:Int)<4:=by omega
      by_cases hd:48<=y/\y<=57
      case pos =>
       obtain ⟨d0,d1⟩:=hd;have hst:=he.out.step hkl h4 (rK (by have:=HY.out;omega))
       rw [HY.out] at hst;have hbd:=hst.bd;obtain ⟨b0,b1⟩:=hbd;have HST4:=Lib.hid hst;have e10:10*n=n*10:=Int.mul_comm _ _;have q1:=IntWalk.i64_in (n*10) (by omega)
       have q2:=IntWalk.i64_in (n*10+(y-48)) (by omega)
       clear hst he;go_wp2
       go_round
       case rel=>exact ⟨k+1,n*10+(y-48),by omega,by go_num,by go_num,HST4.out⟩
       case measure=>simp [intOf];omega
      case' neg =>
       have HST:Hid (Stop l k):=fun _ _=>rJ (by have:=HY.out;omega)
       rcases Int.lt_or_le y 48 with hd1 | hd1
       case' inr=>have hd2:57<y:=by omega
       all_goals clear hd
     all_goals
      by_cases hyd:y=46
      case' neg =>
       have HNO:Hid (l[k]?≠some 46):=by rw [Hid,List.getElem?_eq_getElem hkl];intro e;injection e with e;have:=HY.out;rw [e] at this;exact hyd (by have e2:(46:UInt8).toNat=46:=rfl;omega)
       have hydb:(y == 46)=false:=beq_eq_false_iff_ne.2 hyd;clear hyd
      case pos =>
       first
       | (exfalso;omega)
       | (
        have hyd2:y=46:=hyd;subst hyd2;have hkk:k<s.size:=hlt;have HDOT:Hid (l[k]?=some 46):=by show _=_;rw [List.getElem?_eq_getElem hkl];congr 1;exact UInt8.toNat_inj.1 (by have:=HY.out;have e:(46:UInt8).toNat=46:=rfl;omega)
        go_wp2_with fail
        go_loop [7,8,9,10] (fun q1 q2 q3 q4=>∃ (i j:Nat) (p sc:Int),q1= .int .i64 i/\q2= .int .i64 p/\q3= .int .i64 sc/\q4= .int .i64 j/\j<=4/\i<=s.size/\Hid (i=k+1+j)/\Hid (E2 (l.drop (k+1)) j p sc)) (fun _ _ _ q=>4-(intOf q).toNat)
        case atStart=>exact ⟨k+1,0,0,10000,by go_num,rfl,rfl,rfl,by omega,by omega,rfl,E2.start _⟩
        case round =>
         obtain ⟨i,j,p,sc,rfl,rfl,rfl,rfl,hj4,hi,hij,he2⟩:=hrel;obtain ⟨p0,p1,s0,s1⟩:=he2.out.bd;obtain ⟨n0,n1⟩:=he.out.bd;have i0:(0:Int)<=(i:Int):=by omega
         have j0:(0:Int)<=(j:Int):=by omega
         have HD:Hid ((l.drop (k+1)).length=s.size-(k+1)):=by show _=_;rw [List.length_drop,HBS.out]
         by_cases hj:j<4
         case' neg =>
          have hjI:(4:Int)<=(j:Int):=by omega
          have HST2:Hid (Stop (l.drop (k+1)) j):=fun _ h=>absurd h hj
         case' pos =>
          have hjI:(j:Int)<4:=by omega
          by_cases hib:i<s.size
          case' neg =>
           have hibI:(s.size:Int)<=(i:Int):=by omega
           have HST2:Hid (Stop (l.drop (k+1)) j):=fun h _=>by exfalso;have h1:=HD.out;have h2:=hij.out;omega
          case' pos =>
           have hibI:(i:Int)<(s.size:Int):=by omega
           have hDl:j<(l.drop (k+1)).length:=by have h1:=HD.out;have h2:=hij.out;omega
           obtain ⟨hil,hbi⟩:=jY l HB.out i hib;obtain ⟨z,hz⟩:∃ z:Int,(s[i].toNat:Int)=z:=⟨_,rfl⟩;have HZ:Hid (((l.drop (k+1))[j].toNat:Int)=z):=by
            show _=_
            rw [<- hz,<- hbi,List.getElem_drop]
            congr 3
            exact hij.out.symm
           clear hbi
           by_cases hd:48<=z/\z<=57
           case pos =>
            obtain ⟨z0,z1⟩:=hd;obtain ⟨s2,h10,hs2,hs3,hs4,hs5⟩:=he2.out.sc hj;have hst:=he2.out.step hDl hj (rK (by have:=HZ.out;omega)) hs2 hs3
            rw [HZ.out] at hst;have hm:0<=s2*(z-48)/\s2*(z-48)<=1000*9:=⟨Int.mul_nonneg (by omega) (by omega),Int.mul_le_mul (by omega) (by omega) (by omega) (by omega)⟩
            have q1:=IntWalk.i64_in (s2*(z-48)) (by omega)
            have q2:=IntWalk.i64_in (p+s2*(z-48)) (by omega)
            have hs0:0<=sc:=by omega
            have HST4:=Lib.hid hst;have HIJ:=Lib.hid (show i+1=k+1+(j+1) by have:=hij.out;omega)
            clear hst hs2 hs3 hij he2 hm;go_wp2
            go_round
            case rel=>exact ⟨i+1,j+1,_,s2,by go_num,rfl,by rw [h10],by go_num,by omega,by omega,HIJ.out,HST4.out⟩
            case measure=>simp [intOf];omega
           case' neg =>
            have HST2:Hid (Stop (l.drop (k+1)) j):=fun _ _=>rJ (by have:=HZ.out;omega)
            clear HZ;rcases Int.lt_or_le z 48 with hd1 | hd1
            case' inr=>have hd2:57<z:=by omega
            all_goals clear hd
         all_goals
          have HE3:Hid (E3 l (n*16+p/625)):=⟨k,n,he.out,HST.out,.inr ⟨HDOT.out,j,p,sc,he2.out,HST2.out,rfl⟩⟩;have r0:0<=p/625:=by omega
          have r1:=IntWalk.i64_in (n*16) (by omega)
          have r2:=IntWalk.i64_in (n*16+p/625) (by omega)
          obtain ⟨v,hv⟩:∃ v,v=(n*16+p/625)%4096:=⟨_,rfl⟩;have hv0:0<=v/\v<=4095:=by rw [hv];omega
          have HVV:=Lib.hid hv;have HNN:Hid (∀ x,0<=x->x<=4095->fx x=l->v=x):=fun x h0 h1 e=>by rw [HVV.out];exact E3.pos HLT.out HB45.out HE3.out x h0 h1 e
          clear hv HE3
          go_wp2_with fail
          refine (bG (n*16+p/625) w).mono ?_;rintro e w' ⟨rfl,rfl⟩;rw [<- HVV.out]
          go_wp2_with fail
          refine (dM v hv0 w).mono ?_;rintro e w2 ⟨rfl,hb2⟩;have HB2:=Lib.hid hb2;clear hb2
          by_cases hf:fx v=l
          ·have hR:=Lib.hid (RF.yes hv0 hf);have hne:((bs (fx v)).toList == s.toList)=true:=by rw [<- Go.beq_toListBytes,jo,HS.out,hf]
           clear hf;go_wp2
           go_ret2
           exact ⟨v,true,rfl,hR.out,HB2.out⟩
          ·have hR:=Lib.hid (RF.noS HNN.out hf);have hne:((bs (fx v)).toList == s.toList)=false:=by rw [<- Go.beq_toListBytes];exact iE (fun e=>hf (gU (by rw [<- HS.out];exact e)))
           clear hf;go_wp2
           go_ret2
           exact ⟨0,false,rfl,hR.out,HB2.out⟩)
    all_goals
     have HE3:Hid (E3 l (n*16)):=⟨k,n,he.out,HST.out,.inl ⟨HNO.out,rfl⟩⟩;have r1:=IntWalk.i64_in (n*16) (by omega)
     obtain ⟨v,hv⟩:∃ v,v=(n*16)%4096:=⟨_,rfl⟩;have hv0:0<=v/\v<=4095:=by rw [hv];omega
     have HVV:=Lib.hid hv;have HNN:Hid (∀ x,0<=x->x<=4095->fx x=l->v=x):=fun x h0 h1 e=>by rw [HVV.out];exact E3.pos HLT.out HB45.out HE3.out x h0 h1 e
     clear hv HE3
     go_wp2_with fail
     refine (bG (n*16) w).mono ?_;rintro e w' ⟨rfl,rfl⟩;rw [<- HVV.out]
     go_wp2_with fail
     refine (dM v hv0 w).mono ?_;rintro e w2 ⟨rfl,hb2⟩;have HB2:=Lib.hid hb2;clear hb2
     by_cases hf:fx v=l
     ·have hR:=Lib.hid (RF.yes hv0 hf);have hne:((bs (fx v)).toList == s.toList)=true:=by rw [<- Go.beq_toListBytes,jo,HS.out,hf]
      clear hf;go_wp2
      go_ret2
      exact ⟨v,true,rfl,hR.out,HB2.out⟩
     ·have hR:=Lib.hid (RF.noS HNN.out hf);have hne:((bs (fx v)).toList == s.toList)=false:=by rw [<- Go.beq_toListBytes];exact iE (fun e=>hf (gU (by rw [<- HS.out];exact e)))
      clear hf;go_wp2
      go_ret2
      exact ⟨0,false,rfl,hR.out,HB2.out⟩
end Go.Proofs.YtjciicheoghcdaaGreatDoor
