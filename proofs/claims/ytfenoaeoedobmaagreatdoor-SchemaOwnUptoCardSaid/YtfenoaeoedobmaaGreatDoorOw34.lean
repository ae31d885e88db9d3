/-
Parts of a proof.
-/
import Derived.Test.YtfenoaeoedobmaaGreatDoorOw33
set_option linter.unusedVariables false
set_option linter.unusedSimpArgs false
set_option maxHeartbeats 4000000
set_option maxRecDepth 20000
namespace Go.Proofs.YtfenoaeoedobmaaGreatDoor
open Go Go.RowKit
noncomputable def aD:Code:=(ncr (ncr (ncr (ncr (ncx Tryz.f29.body)))))
noncomputable def aH:Code:=(ncr (nce (ncr (ncb (ncl (ncr (ncr aD)))))))
noncomputable def fi:Code:=(nco (ncb (ncr (ncr (nct aH)))))
noncomputable def b9:Code:=(nct (ncr (nce (ncr (nce aH)))))
noncomputable def c9:Code:=(nco (ncb (ncr (ncr (nct (ncr (nce aH)))))))
noncomputable def cD:Code:=(nco (ncb (ncr (ncr (ncr b9)))))
noncomputable def eP:Code:=(ncr (ncb (ncl (ncr (ncr cD)))))
noncomputable def twA:Code:=(ncl (ncr (ncr (ncx Tryz.f29.body))))
noncomputable def twB:Code:=(ncl (ncr (ncr (ncr (ncx Tryz.f29.body)))))
noncomputable def twC:Code:=(ncl aD)
noncomputable def twD:Code:=(ncl (ncr aD))
noncomputable def twZ:Code:=(ncr (ncr (ncr aD)))
noncomputable def jm:Code:=(nct (ncr (ncb (ncl (ncr (ncr aD))))))
noncomputable def pT:Code:=(ncl (nce (ncr (ncb (ncl (ncr (ncr aD)))))))
noncomputable def mN:Code:=(ncl (nce aH))
noncomputable def qk:Code:=(ncl (nce (ncr (nce aH))))
noncomputable def H9:Code:=(ncl (nct aH))
noncomputable def H6:Code:=(ncl (ncr (nct aH)))
noncomputable def J9:Code:=(ncb (ncr (ncr (nct aH))))
noncomputable def G8:Code:=(ncl fi)
noncomputable def G7:Code:=(ncl (ncr fi))
noncomputable def H5:Code:=(ncl (ncb (ncl (ncr (ncr fi)))))
noncomputable def G9:Code:=(ncr (ncb (ncl (ncr (ncr fi)))))
noncomputable def J7:Code:=(ncb (ncl (ncr (ncr fi))))
noncomputable def J8:Code:=(ncr (ncr (ncr fi)))
noncomputable def G6:Code:=(ncl (nct (ncr (nce aH))))
noncomputable def G5:Code:=(ncl (ncr (nct (ncr (nce aH)))))
noncomputable def J6:Code:=(ncb (ncr (ncr (nct (ncr (nce aH))))))
noncomputable def G0:Code:=(ncl c9)
noncomputable def GZ:Code:=(ncl (ncr c9))
noncomputable def G4:Code:=(ncl (ncb (ncl (ncr (ncr c9)))))
noncomputable def G3:Code:=(ncl (ncr (ncb (ncl (ncr (ncr c9))))))
noncomputable def A4:Code:=(ncl (ncr (ncr (ncb (ncl (ncr (ncr c9)))))))
noncomputable def G1:Code:=(ncr (ncr (ncr (ncb (ncl (ncr (ncr c9)))))))
noncomputable def J4:Code:=(ncb (ncl (ncr (ncr c9))))
noncomputable def J5:Code:=(ncr (ncr (ncr c9)))
noncomputable def yS:Code:=(ncl b9)
noncomputable def Ef:Code:=(ncl (ncr b9))
noncomputable def Ee:Code:=(ncl (ncr (ncr b9)))
noncomputable def D9:Code:=(ncb (ncr (ncr (ncr b9))))
noncomputable def yP:Code:=(ncl cD)
noncomputable def yO:Code:=(ncl (ncr cD))
noncomputable def D7:Code:=(ncb (ncl (ncr (ncr cD))))
noncomputable def Ed:Code:=(ncl (ncb (ncl (ncr (ncr cD)))))
noncomputable def Ec:Code:=(ncl eP)
noncomputable def yR:Code:=(ncl (ncr eP))
noncomputable def Eb:Code:=(ncl (ncr (ncr eP)))
noncomputable def Ea:Code:=(ncl (ncr (ncr (ncr eP))))
noncomputable def yQ:Code:=(ncr (ncr (ncr (ncr eP))))
noncomputable def D8:Code:=(ncr (ncr (ncr cD)))
def bW (v:Nat->Value):Act:=⟨#[v 0,v 1,v 2,v 3,v 4,v 5,v 6,v 7,v 8,v 9,v 10,v 11,v 12,v 13,v 14,v 15,v 16,v 17,v 18,v 19,v 20,v 21,v 22,v 23,v 24,v 25,v 26,v 27,v 28,v 29,v 30,v 31,v 32,v 33,v 34,v 35,v 36,v 37,v 38,v 39,v 40,v 41,v 42,v 43,v 44,v 45,v 46,v 47,v 48,v 49,v 50,v 51,v 52,v 53,v 54,v 55,v 56,v 57,v 58,v 59,v 60,v 61,v 62,v 63,v 64,v 65,v 66,v 67,v 68,v 69,v 70,v 71,v 72,v 73,v 74,v 75,v 76,v 77,v 78,v 79,v 80,v 81,v 82,v 83,v 84,v 85,v 86,v 87,v 88,v 89,v 90,v 91,v 92,v 93,v 94,v 95,v 96,v 97,v 98,v 99,v 100,v 101,v 102,v 103,v 104,v 105,v 106,v 107,v 108,v 109,v 110,v 111,v 112,v 113,v 114,v 115,v 116,v 117,v 118,v 119,v 120,v 121,v 122,v 123,v 124,v 125,v 126,v 127,v 128,v 129,v 130,v 131,v 132,v 133,v 134,v 135,v 136,v 137,v 138,v 139,v 140,v 141,v 142,v 143,v 144,v 145,v 146,v 147,v 148,v 149,v 150,v 151,v 152,v 153,v 154,v 155,v 156,v 157,v 158,v 159,v 160,v 161,v 162,v 163,v 164,v 165,v 166,v 167,v 168,v 169,v 170,v 171],[]⟩
theorem fp (a:Act) (hs:a.tmps.size=172) (hd:a.defers=[]):∃v:Nat->Value,(∀(i:Nat) (x:Value),a.tmps[i]? =some x->v i=x)/\a=bW v:=by
 obtain ⟨t,d⟩:=a;obtain ⟨l⟩:=t;obtain rfl:d=[]:=hd;have hl:l.length=172:=hs;refine ⟨fun i=>l.getD i undef,fun i x hx=> ?_,?_⟩
 ·have hx':l[i]? =some x:=by simpa using hx
  simp[List.getD,hx']
 ·have e:l=(List.range 172).map (fun i=>l.getD i undef):=by
   apply List.ext_getElem
   ·simp[hl]
   ·intro i h1 h2;simp[List.getD,h1]
  generalize (fun i=>l.getD i undef)=v at e |-;subst e;rfl
structure TwO (a:Act) (bb:Nat) (wb:Nat):Prop where
 size:a.tmps.size=172
 dfr:a.defers=[]
 s1:a.tmps[1]? =some (.pointer (some ⟨bb,0,none⟩))
 s3:a.tmps[3]? =some (.pointer (some ⟨wb,0,none⟩))
theorem TwO.shape {a:Act} {bb:Nat} {wb:Nat} (h:TwO a bb wb):∃v:Nat->Value,a=bW v/\v 1= .pointer (some ⟨bb,0,none⟩)/\v 3= .pointer (some ⟨wb,0,none⟩):=by
 obtain ⟨v,hv,hd⟩:=fp a h.size h.dfr;exact ⟨v,hd,hv 1 _ h.s1,hv 3 _ h.s3⟩
structure TwP (a:Act) (bb:Nat) (wb:Nat) (k0:Nat):Prop where
 size:a.tmps.size=172
 dfr:a.defers=[]
 s1:a.tmps[1]? =some (.pointer (some ⟨bb,0,none⟩))
 s3:a.tmps[3]? =some (.pointer (some ⟨wb,0,none⟩))
 s4:a.tmps[4]? =some (.int .i64 (k0:Int))
theorem TwP.shape {a:Act} {bb:Nat} {wb:Nat} {k0:Nat} (h:TwP a bb wb k0):∃v:Nat->Value,a=bW v/\v 1= .pointer (some ⟨bb,0,none⟩)/\v 3= .pointer (some ⟨wb,0,none⟩)/\v 4= .int .i64 (k0:Int):=by
 obtain ⟨v,hv,hd⟩:=fp a h.size h.dfr;exact ⟨v,hd,hv 1 _ h.s1,hv 3 _ h.s3,hv 4 _ h.s4⟩
structure TwL5 (a:Act) (bb:Nat) (wb:Nat) (lv:Nat):Prop where
 size:a.tmps.size=172
 dfr:a.defers=[]
 s1:a.tmps[1]? =some (.pointer (some ⟨bb,0,none⟩))
 s3:a.tmps[3]? =some (.pointer (some ⟨wb,0,none⟩))
 s5:a.tmps[5]? =some (.int .i64 (lv:Int))
theorem TwL5.shape {a:Act} {bb:Nat} {wb:Nat} {lv:Nat} (h:TwL5 a bb wb lv):∃v:Nat->Value,a=bW v/\v 1= .pointer (some ⟨bb,0,none⟩)/\v 3= .pointer (some ⟨wb,0,none⟩)/\v 5= .int .i64 (lv:Int):=by
 obtain ⟨v,hv,hd⟩:=fp a h.size h.dfr;exact ⟨v,hd,hv 1 _ h.s1,hv 3 _ h.s3,hv 5 _ h.s5⟩
structure TwL8 (a:Act) (bb:Nat) (wb:Nat) (lv:Nat):Prop where
 size:a.tmps.size=172
 dfr:a.defers=[]
 s1:a.tmps[1]? =some (.pointer (some ⟨bb,0,none⟩))
 s3:a.tmps[3]? =some (.pointer (some ⟨wb,0,none⟩))
 s8:a.tmps[8]? =some (.int .i64 (lv:Int))
theorem TwL8.shape {a:Act} {bb:Nat} {wb:Nat} {lv:Nat} (h:TwL8 a bb wb lv):∃v:Nat->Value,a=bW v/\v 1= .pointer (some ⟨bb,0,none⟩)/\v 3= .pointer (some ⟨wb,0,none⟩)/\v 8= .int .i64 (lv:Int):=by
 obtain ⟨v,hv,hd⟩:=fp a h.size h.dfr;exact ⟨v,hd,hv 1 _ h.s1,hv 3 _ h.s3,hv 8 _ h.s8⟩
structure TwL12 (a:Act) (bb:Nat) (wb:Nat) (lv:Nat):Prop where
 size:a.tmps.size=172
 dfr:a.defers=[]
 s1:a.tmps[1]? =some (.pointer (some ⟨bb,0,none⟩))
 s3:a.tmps[3]? =some (.pointer (some ⟨wb,0,none⟩))
 s12:a.tmps[12]? =some (.int .i64 (lv:Int))
theorem TwL12.shape {a:Act} {bb:Nat} {wb:Nat} {lv:Nat} (h:TwL12 a bb wb lv):∃v:Nat->Value,a=bW v/\v 1= .pointer (some ⟨bb,0,none⟩)/\v 3= .pointer (some ⟨wb,0,none⟩)/\v 12= .int .i64 (lv:Int):=by
 obtain ⟨v,hv,hd⟩:=fp a h.size h.dfr;exact ⟨v,hd,hv 1 _ h.s1,hv 3 _ h.s3,hv 12 _ h.s12⟩
structure TwE (a:Act) (bb:Nat) (wb:Nat) (lv:Nat) (ev:Value) (n:Nat) (j:Nat):Prop where
 size:a.tmps.size=172
 dfr:a.defers=[]
 s1:a.tmps[1]? =some (.pointer (some ⟨bb,0,none⟩))
 s3:a.tmps[3]? =some (.pointer (some ⟨wb,0,none⟩))
 s5:a.tmps[5]? =some (.int .i64 (lv:Int))
 s60:a.tmps[60]? =some (ev)
 s61:a.tmps[61]? =some (.int .i64 (n:Int))
 s62:a.tmps[62]? =some (.int .i64 (j:Int))
theorem TwE.shape {a:Act} {bb:Nat} {wb:Nat} {lv:Nat} {ev:Value} {n:Nat} {j:Nat} (h:TwE a bb wb lv ev n j):∃v:Nat->Value,a=bW v/\v 1= .pointer (some ⟨bb,0,none⟩)/\v 3= .pointer (some ⟨wb,0,none⟩)/\v 5= .int .i64 (lv:Int)/\v 60=ev/\v 61= .int .i64 (n:Int)/\v 62= .int .i64 (j:Int):=by
 obtain ⟨v,hv,hd⟩:=fp a h.size h.dfr;exact ⟨v,hd,hv 1 _ h.s1,hv 3 _ h.s3,hv 5 _ h.s5,hv 60 _ h.s60,hv 61 _ h.s61,hv 62 _ h.s62⟩
structure TwEs (a:Act) (bb:Nat) (wb:Nat) (lv:Nat) (ev:Value) (n:Nat) (j:Nat) (sx:ByteArray):Prop where
 size:a.tmps.size=172
 dfr:a.defers=[]
 s1:a.tmps[1]? =some (.pointer (some ⟨bb,0,none⟩))
 s3:a.tmps[3]? =some (.pointer (some ⟨wb,0,none⟩))
 s5:a.tmps[5]? =some (.int .i64 (lv:Int))
 s7:a.tmps[7]? =some (.string sx)
 s60:a.tmps[60]? =some (ev)
 s61:a.tmps[61]? =some (.int .i64 (n:Int))
 s62:a.tmps[62]? =some (.int .i64 (j:Int))
theorem TwEs.shape {a:Act} {bb:Nat} {wb:Nat} {lv:Nat} {ev:Value} {n:Nat} {j:Nat} {sx:ByteArray} (h:TwEs a bb wb lv ev n j sx):∃v:Nat->Value,a=bW v/\v 1= .pointer (some ⟨bb,0,none⟩)/\v 3= .pointer (some ⟨wb,0,none⟩)/\v 5= .int .i64 (lv:Int)/\v 7= .string sx/\v 60=ev/\v 61= .int .i64 (n:Int)/\v 62= .int .i64 (j:Int):=by
 obtain ⟨v,hv,hd⟩:=fp a h.size h.dfr;exact ⟨v,hd,hv 1 _ h.s1,hv 3 _ h.s3,hv 5 _ h.s5,hv 7 _ h.s7,hv 60 _ h.s60,hv 61 _ h.s61,hv 62 _ h.s62⟩
structure TwT (a:Act) (bb:Nat) (wb:Nat) (lv:Nat) (ev:Value) (n:Nat) (j:Nat):Prop where
 size:a.tmps.size=172
 dfr:a.defers=[]
 s1:a.tmps[1]? =some (.pointer (some ⟨bb,0,none⟩))
 s3:a.tmps[3]? =some (.pointer (some ⟨wb,0,none⟩))
 s8:a.tmps[8]? =some (.int .i64 (lv:Int))
 s79:a.tmps[79]? =some (ev)
 s80:a.tmps[80]? =some (.int .i64 (n:Int))
 s81:a.tmps[81]? =some (.int .i64 (j:Int))
theorem TwT.shape {a:Act} {bb:Nat} {wb:Nat} {lv:Nat} {ev:Value} {n:Nat} {j:Nat} (h:TwT a bb wb lv ev n j):∃v:Nat->Value,a=bW v/\v 1= .pointer (some ⟨bb,0,none⟩)/\v 3= .pointer (some ⟨wb,0,none⟩)/\v 8= .int .i64 (lv:Int)/\v 79=ev/\v 80= .int .i64 (n:Int)/\v 81= .int .i64 (j:Int):=by
 obtain ⟨v,hv,hd⟩:=fp a h.size h.dfr;exact ⟨v,hd,hv 1 _ h.s1,hv 3 _ h.s3,hv 8 _ h.s8,hv 79 _ h.s79,hv 80 _ h.s80,hv 81 _ h.s81⟩
structure TwTb (a:Act) (bb:Nat) (wb:Nat) (lv:Nat) (ev:Value) (n:Nat) (j:Nat) (tb:Nat):Prop where
 size:a.tmps.size=172
 dfr:a.defers=[]
 s1:a.tmps[1]? =some (.pointer (some ⟨bb,0,none⟩))
 s3:a.tmps[3]? =some (.pointer (some ⟨wb,0,none⟩))
 s8:a.tmps[8]? =some (.int .i64 (lv:Int))
 s10:a.tmps[10]? =some (.pointer (some ⟨tb,0,none⟩))
 s79:a.tmps[79]? =some (ev)
 s80:a.tmps[80]? =some (.int .i64 (n:Int))
 s81:a.tmps[81]? =some (.int .i64 (j:Int))
theorem TwTb.shape {a:Act} {bb:Nat} {wb:Nat} {lv:Nat} {ev:Value} {n:Nat} {j:Nat} {tb:Nat} (h:TwTb a bb wb lv ev n j tb):∃v:Nat->Value,a=bW v/\v 1= .pointer (some ⟨bb,0,none⟩)/\v 3= .pointer (some ⟨wb,0,none⟩)/\v 8= .int .i64 (lv:Int)/\v 10= .pointer (some ⟨tb,0,none⟩)/\v 79=ev/\v 80= .int .i64 (n:Int)/\v 81= .int .i64 (j:Int):=by
 obtain ⟨v,hv,hd⟩:=fp a h.size h.dfr;exact ⟨v,hd,hv 1 _ h.s1,hv 3 _ h.s3,hv 8 _ h.s8,hv 10 _ h.s10,hv 79 _ h.s79,hv 80 _ h.s80,hv 81 _ h.s81⟩
structure TwTk (a:Act) (bb:Nat) (wb:Nat) (lv:Nat) (ev:Value) (n:Nat) (j:Nat) (tb:Nat) (k:Nat):Prop where
 size:a.tmps.size=172
 dfr:a.defers=[]
 s1:a.tmps[1]? =some (.pointer (some ⟨bb,0,none⟩))
 s3:a.tmps[3]? =some (.pointer (some ⟨wb,0,none⟩))
 s8:a.tmps[8]? =some (.int .i64 (lv:Int))
 s10:a.tmps[10]? =some (.pointer (some ⟨tb,0,none⟩))
 s11:a.tmps[11]? =some (.int .i64 (k:Int))
 s79:a.tmps[79]? =some (ev)
 s80:a.tmps[80]? =some (.int .i64 (n:Int))
 s81:a.tmps[81]? =some (.int .i64 (j:Int))
theorem TwTk.shape {a:Act} {bb:Nat} {wb:Nat} {lv:Nat} {ev:Value} {n:Nat} {j:Nat} {tb:Nat} {k:Nat} (h:TwTk a bb wb lv ev n j tb k):∃v:Nat->Value,a=bW v/\v 1= .pointer (some ⟨bb,0,none⟩)/\v 3= .pointer (some ⟨wb,0,none⟩)/\v 8= .int .i64 (lv:Int)/\v 10= .pointer (some ⟨tb,0,none⟩)/\v 11= .int .i64 (k:Int)/\v 79=ev/\v 80= .int .i64 (n:Int)/\v 81= .int .i64 (j:Int):=by
 obtain ⟨v,hv,hd⟩:=fp a h.size h.dfr;exact ⟨v,hd,hv 1 _ h.s1,hv 3 _ h.s3,hv 8 _ h.s8,hv 10 _ h.s10,hv 11 _ h.s11,hv 79 _ h.s79,hv 80 _ h.s80,hv 81 _ h.s81⟩
structure TwU (a:Act) (bb:Nat) (wb:Nat) (lv:Nat) (ev:Value) (n:Nat) (j:Nat):Prop where
 size:a.tmps.size=172
 dfr:a.defers=[]
 s1:a.tmps[1]? =some (.pointer (some ⟨bb,0,none⟩))
 s3:a.tmps[3]? =some (.pointer (some ⟨wb,0,none⟩))
 s12:a.tmps[12]? =some (.int .i64 (lv:Int))
 s129:a.tmps[129]? =some (ev)
 s130:a.tmps[130]? =some (.int .i64 (n:Int))
 s131:a.tmps[131]? =some (.int .i64 (j:Int))
theorem TwU.shape {a:Act} {bb:Nat} {wb:Nat} {lv:Nat} {ev:Value} {n:Nat} {j:Nat} (h:TwU a bb wb lv ev n j):∃v:Nat->Value,a=bW v/\v 1= .pointer (some ⟨bb,0,none⟩)/\v 3= .pointer (some ⟨wb,0,none⟩)/\v 12= .int .i64 (lv:Int)/\v 129=ev/\v 130= .int .i64 (n:Int)/\v 131= .int .i64 (j:Int):=by
 obtain ⟨v,hv,hd⟩:=fp a h.size h.dfr;exact ⟨v,hd,hv 1 _ h.s1,hv 3 _ h.s3,hv 12 _ h.s12,hv 129 _ h.s129,hv 130 _ h.s130,hv 131 _ h.s131⟩
structure TwUb (a:Act) (bb:Nat) (wb:Nat) (lv:Nat) (ev:Value) (n:Nat) (j:Nat) (tb:Nat):Prop where
 size:a.tmps.size=172
 dfr:a.defers=[]
 s1:a.tmps[1]? =some (.pointer (some ⟨bb,0,none⟩))
 s3:a.tmps[3]? =some (.pointer (some ⟨wb,0,none⟩))
 s12:a.tmps[12]? =some (.int .i64 (lv:Int))
 s14:a.tmps[14]? =some (.pointer (some ⟨tb,0,none⟩))
 s129:a.tmps[129]? =some (ev)
 s130:a.tmps[130]? =some (.int .i64 (n:Int))
 s131:a.tmps[131]? =some (.int .i64 (j:Int))
theorem TwUb.shape {a:Act} {bb:Nat} {wb:Nat} {lv:Nat} {ev:Value} {n:Nat} {j:Nat} {tb:Nat} (h:TwUb a bb wb lv ev n j tb):∃v:Nat->Value,a=bW v/\v 1= .pointer (some ⟨bb,0,none⟩)/\v 3= .pointer (some ⟨wb,0,none⟩)/\v 12= .int .i64 (lv:Int)/\v 14= .pointer (some ⟨tb,0,none⟩)/\v 129=ev/\v 130= .int .i64 (n:Int)/\v 131= .int .i64 (j:Int):=by
 obtain ⟨v,hv,hd⟩:=fp a h.size h.dfr;exact ⟨v,hd,hv 1 _ h.s1,hv 3 _ h.s3,hv 12 _ h.s12,hv 14 _ h.s14,hv 129 _ h.s129,hv 130 _ h.s130,hv 131 _ h.s131⟩
structure TwUk (a:Act) (bb:Nat) (wb:Nat) (lv:Nat) (ev:Value) (n:Nat) (j:Nat) (tb:Nat) (k:Nat):Prop where
 size:a.tmps.size=172
 dfr:a.defers=[]
 s1:a.tmps[1]? =some (.pointer (some ⟨bb,0,none⟩))
 s3:a.tmps[3]? =some (.pointer (some ⟨wb,0,none⟩))
 s12:a.tmps[12]? =some (.int .i64 (lv:Int))
 s14:a.tmps[14]? =some (.pointer (some ⟨tb,0,none⟩))
 s15:a.tmps[15]? =some (.int .i64 (k:Int))
 s129:a.tmps[129]? =some (ev)
 s130:a.tmps[130]? =some (.int .i64 (n:Int))
 s131:a.tmps[131]? =some (.int .i64 (j:Int))
theorem TwUk.shape {a:Act} {bb:Nat} {wb:Nat} {lv:Nat} {ev:Value} {n:Nat} {j:Nat} {tb:Nat} {k:Nat} (h:TwUk a bb wb lv ev n j tb k):∃v:Nat->Value,a=bW v/\v 1= .pointer (some ⟨bb,0,none⟩)/\v 3= .pointer (some ⟨wb,0,none⟩)/\v 12= .int .i64 (lv:Int)/\v 14= .pointer (some ⟨tb,0,none⟩)/\v 15= .int .i64 (k:Int)/\v 129=ev/\v 130= .int .i64 (n:Int)/\v 131= .int .i64 (j:Int):=by
 obtain ⟨v,hv,hd⟩:=fp a h.size h.dfr;exact ⟨v,hd,hv 1 _ h.s1,hv 3 _ h.s3,hv 12 _ h.s12,hv 14 _ h.s14,hv 15 _ h.s15,hv 129 _ h.s129,hv 130 _ h.s130,hv 131 _ h.s131⟩
section
variable {w1 w:World} {Q:Exit->Act->World->Prop} {a:Act} {r:Res} {ev tv rv lw:Value} {ns:List Nd} {bb wb lv n j tb k k0:Nat} {sx:ByteArray}
abbrev qg (t:Tgt):Obj:= .cells #[.string t.service,.string t.split,.float .f64 t.weight] 58 (0,0)
abbrev lN (u:Rul):Obj:= .cells #[.string u.path,.string u.method,.string u.split,.bool u.allow] 60 (0,0)
theorem kt {w:World} {tb:Nat} {t:Tgt} (h:w.heap[tb]? =some (qg t)):w.cell? ⟨tb,0,none⟩=some (.string t.service)/\w.cell? ⟨tb,1,none⟩=some (.string t.split)/\w.cell? ⟨tb,2,none⟩=some (.float .f64 t.weight):=
 ⟨af h 0,af h 1,af h 2⟩
theorem gN {w:World} {tb:Nat} {u:Rul} (h:w.heap[tb]? =some (lN u)):w.cell? ⟨tb,0,none⟩=some (.string u.path)/\w.cell? ⟨tb,1,none⟩=some (.string u.method)/\w.cell? ⟨tb,2,none⟩=some (.string u.split)/\w.cell? ⟨tb,3,none⟩=some (.bool u.allow):=
 ⟨af h 0,af h 1,af h 2,af h 3⟩
theorem tw_d (X:Code) (hT:TrS w1 w r ev tv rv bb wb none ns) (hl:ns.length<1048576) (hp:k0<ns.length) (hs:(r.name:ByteArray).size<=1048576) (hf:TwP a bb wb k0)
 (ok:∀a' w',TwP a' bb wb k0->TrS w1 w' r ev tv rv bb wb none (aI ns k0 (aJ bB r.name .nil))->X.wp Tryz.prog Q a' w'):(Code.seq twD X).wp Tryz.prog Q a w:=by
 obtain ⟨c0,c1,c2,c3,c4,c5,c6,c7⟩:=hT.cells;have HC:=hid (eu hT hl k0 hp bB (by decide) (r.name) hs);have Hok:=hid ok;obtain ⟨vv,rfl,eE⟩:=hf.shape;simp only[bW,eE];clear eE;clear hf ok hT hl hp hs;unfold bB at HC;dsimp only[twD,aD,ncl,ncr,ncx,Tryz.f29]
 go_wp2_with fail
 refine HC.o.mono ?_;rintro x w2 ⟨⟨v,rfl⟩,h2⟩;have H2:=hid h2;clear h2 HC;go_wp2;exact Hok.o _ _ ⟨rfl,rfl,rfl,rfl,rfl⟩ H2.o
theorem GW (hT:TrS w1 w r ev tv rv bb wb none ns) (hl:ns.length<1048576) (hp:k0<ns.length) (hs:(kTrue:ByteArray).size<=1048576) (hf:TwP a bb wb k0)
 (ok:∀a' w',TwP a' bb wb k0->TrS w1 w' r ev tv rv bb wb none (aI ns k0 (aJ bu kTrue .nil))->Q .normal a' w'):jm.wp Tryz.prog Q a w:=by
 obtain ⟨c0,c1,c2,c3,c4,c5,c6,c7⟩:=hT.cells;have HC:=hid (eu hT hl k0 hp bu (by decide) (kTrue) hs);have Hok:=hid ok;obtain ⟨vv,rfl,eE⟩:=hf.shape;simp only[bW,eE];clear eE;clear hf ok hT hl hp hs;unfold bu kTrue at HC;dsimp only[jm,aD,ncb,ncl,ncr,nct,ncx,Tryz.f29]
 go_wp2_with fail
 refine HC.o.mono ?_;rintro x w2 ⟨⟨v,rfl⟩,h2⟩;have H2:=hid h2;clear h2 HC;go_wp2;exact Hok.o _ _ ⟨rfl,rfl,rfl,rfl,rfl⟩ H2.o
theorem J3 (X:Code) (hT:TrS w1 w r ev tv rv bb wb none ns) (hl:ns.length<1048576) (hp:k0<ns.length) (hf:TwP a bb wb k0)
 (ok:∀a' w',TwL5 a' bb wb ns.length->TrS w1 w' r ev tv rv bb wb none (aI ns k0 (.br 3 bn .nil .nil))->X.wp Tryz.prog Q a' w'):(Code.seq H9 X).wp Tryz.prog Q a w:=by
 have HC:=hid (kR hT hl k0 hp 3 (by decide) bn (by decide));obtain ⟨nl,hnl⟩:=ex (ns.length);rw[<-hnl]at HC ok;have Hok:=hid ok;obtain ⟨vv,rfl,eE⟩:=hf.shape;simp only[bW,eE];clear eE;clear hf ok hT hl hp hnl;unfold bn at HC;dsimp only[H9,aH,aD,ncb,nce,ncl,ncr,nct,ncx,Tryz.f29]
 go_wp2_with fail
 refine HC.o.mono ?_;rintro x w2 ⟨rfl,h2⟩;have H2:=hid h2;clear h2 HC;go_wp2;exact Hok.o _ _ ⟨rfl,rfl,rfl,rfl,rfl⟩ H2.o
theorem JY (X:Code) (hT:TrS w1 w r ev tv rv bb wb none ns) (hl:ns.length<1048576) (hp:k0<ns.length) (hf:TwP a bb wb k0)
 (ok:∀a' w',TwL8 a' bb wb ns.length->TrS w1 w' r ev tv rv bb wb none (aI ns k0 (.br 3 cq .nil .nil))->X.wp Tryz.prog Q a' w'):(Code.seq G6 X).wp Tryz.prog Q a w:=by
 have HC:=hid (kR hT hl k0 hp 3 (by decide) cq (by decide));obtain ⟨nl,hnl⟩:=ex (ns.length);rw[<-hnl]at HC ok;have Hok:=hid ok;obtain ⟨vv,rfl,eE⟩:=hf.shape;simp only[bW,eE];clear eE;clear hf ok hT hl hp hnl;unfold cq at HC;dsimp only[G6,aH,aD,ncb,nce,ncl,ncr,nct,ncx,Tryz.f29]
 go_wp2_with fail
 refine HC.o.mono ?_;rintro x w2 ⟨rfl,h2⟩;have H2:=hid h2;clear h2 HC;go_wp2;exact Hok.o _ _ ⟨rfl,rfl,rfl,rfl,rfl⟩ H2.o
theorem Gq (X:Code) (hT:TrS w1 w r ev tv rv bb wb none ns) (hl:ns.length<1048576) (hp:k0<ns.length) (hf:TwP a bb wb k0)
 (ok:∀a' w',TwL12 a' bb wb ns.length->TrS w1 w' r ev tv rv bb wb none (aI ns k0 (.br 3 bX .nil .nil))->X.wp Tryz.prog Q a' w'):(Code.seq Ef X).wp Tryz.prog Q a w:=by
 have HC:=hid (kR hT hl k0 hp 3 (by decide) bX (by decide));obtain ⟨nl,hnl⟩:=ex (ns.length);rw[<-hnl]at HC ok;have Hok:=hid ok;obtain ⟨vv,rfl,eE⟩:=hf.shape;simp only[bW,eE];clear eE;clear hf ok hT hl hp hnl;unfold bX at HC;dsimp only[Ef,b9,aH,aD,ncb,nce,ncl,ncr,nct,ncx,Tryz.f29]
 go_wp2_with fail
 refine HC.o.mono ?_;rintro x w2 ⟨rfl,h2⟩;have H2:=hid h2;clear h2 HC;go_wp2;exact Hok.o _ _ ⟨rfl,rfl,rfl,rfl,rfl⟩ H2.o
theorem J2 (X:Code) {ao:Option Addr} {cap:Nat} (hT:TrS w1 w r (.slice ao n cap) tv rv bb wb none ns) (hf:TwL5 a bb wb lv)
 (ok:∀a',TwE a' bb wb lv (.slice ao n cap) n 0->X.wp Tryz.prog Q a' w):(Code.seq H6 X).wp Tryz.prog Q a w:=by
 obtain ⟨c0,c1,c2,c3,c4,c5,c6,c7⟩:=hT.cells;have Hok:=hid ok;obtain ⟨vv,rfl,eE⟩:=hf.shape;simp only[bW,eE];clear eE;clear hf ok hT;dsimp only[H6,aH,aD,ncb,nce,ncl,ncr,nct,ncx,Tryz.f29];go_wp2;exact Hok.o _ ⟨rfl,rfl,rfl,rfl,rfl,rfl,rfl,rfl⟩
theorem JX (X:Code) {ao:Option Addr} {cap:Nat} (hT:TrS w1 w r ev (.slice ao n cap) rv bb wb none ns) (hf:TwL8 a bb wb lv)
 (ok:∀a',TwT a' bb wb lv (.slice ao n cap) n 0->X.wp Tryz.prog Q a' w):(Code.seq G5 X).wp Tryz.prog Q a w:=by
 obtain ⟨c0,c1,c2,c3,c4,c5,c6,c7⟩:=hT.cells;have Hok:=hid ok;obtain ⟨vv,rfl,eE⟩:=hf.shape;simp only[bW,eE];clear eE;clear hf ok hT;dsimp only[G5,aH,aD,ncb,nce,ncl,ncr,nct,ncx,Tryz.f29];go_wp2;exact Hok.o _ ⟨rfl,rfl,rfl,rfl,rfl,rfl,rfl,rfl⟩
theorem Gp (X:Code) {ao:Option Addr} {cap:Nat} (hT:TrS w1 w r ev tv (.slice ao n cap) bb wb none ns) (hf:TwL12 a bb wb lv)
 (ok:∀a',TwU a' bb wb lv (.slice ao n cap) n 0->X.wp Tryz.prog Q a' w):(Code.seq Ee X).wp Tryz.prog Q a w:=by
 obtain ⟨c0,c1,c2,c3,c4,c5,c6,c7⟩:=hT.cells;have Hok:=hid ok;obtain ⟨vv,rfl,eE⟩:=hf.shape;simp only[bW,eE];clear eE;clear hf ok hT;dsimp only[Ee,b9,aH,aD,ncb,nce,ncl,ncr,nct,ncx,Tryz.f29];go_wp2;exact Hok.o _ ⟨rfl,rfl,rfl,rfl,rfl,rfl,rfl,rfl⟩
theorem J1 (X:Code) {lb lo lc:Nat} (hj:j<n) (z:w.cell? ⟨lb,lo+j,none⟩=some (.string sx)) (hf:TwE a bb wb lv (.slice (some ⟨lb,lo,none⟩) n lc) n j)
 (ok:∀a',TwEs a' bb wb lv (.slice (some ⟨lb,lo,none⟩) n lc) n j sx->X.wp Tryz.prog Q a' w):(Code.seq H5 X).wp Tryz.prog Q a w:=by
 have bj:(j:Int)<(n:Int):=by omega
 have Hok:=hid ok;obtain ⟨vv,rfl,eE⟩:=hf.shape;simp only[bW,eE];clear eE;clear hf ok hj;dsimp only[H5,fi,aH,aD,ncb,nce,ncl,nco,ncr,nct,ncx,Tryz.f29];go_wp2;exact Hok.o _ ⟨rfl,rfl,rfl,rfl,rfl,rfl,rfl,rfl,rfl⟩
theorem J0 (hT:TrS w1 w r ev tv rv bb wb none ns) (hl:ns.length<1048576) (hp:lv<ns.length) (hs:(sx:ByteArray).size<=1048576) (hf:TwEs a bb wb lv lw n j sx)
 (ok:∀a' w',TwEs a' bb wb lv lw n j sx->TrS w1 w' r ev tv rv bb wb none (aI ns lv (aJ ⟨#[]⟩ sx .nil))->Q .normal a' w'):G9.wp Tryz.prog Q a w:=by
 obtain ⟨c0,c1,c2,c3,c4,c5,c6,c7⟩:=hT.cells;have HC:=hid (eu hT hl lv hp ⟨#[]⟩ (by decide) (sx) hs);have Hok:=hid ok;obtain ⟨vv,rfl,eE⟩:=hf.shape;simp only[bW,eE];clear eE;clear hf ok hT hl hp hs;dsimp only[G9,fi,aH,aD,ncb,nce,ncl,nco,ncr,nct,ncx,Tryz.f29]
 go_wp2_with fail
 refine HC.o.mono ?_;rintro x w2 ⟨⟨v,rfl⟩,h2⟩;have H2:=hid h2;clear h2 HC;go_wp2;exact Hok.o _ _ ⟨rfl,rfl,rfl,rfl,rfl,rfl,rfl,rfl,rfl⟩ H2.o
theorem JW (X:Code) {lb lo lc:Nat} {t:Tgt} (hT:TrS w1 w r ev tv rv bb wb none ns) (hj:j<n) (z0:w.cell? ⟨lb,lo+j*3,none⟩=some (.string t.service)) (z1:w.cell? ⟨lb,lo+j*3+1,none⟩=some (.string t.split)) (z2:w.cell? ⟨lb,lo+j*3+2,none⟩=some (.float .f64 t.weight)) (hf:TwT a bb wb lv (.slice (some ⟨lb,lo,none⟩) n lc) n j)
 (ok:∀a' w' tb,TwTb a' bb wb lv (.slice (some ⟨lb,lo,none⟩) n lc) n j tb->TrS w1 w' r ev tv rv bb wb (some (tb,qg t)) ns->X.wp Tryz.prog Q a' w'):(Code.seq G4 X).wp Tryz.prog Q a w:=by
 have bj:(j:Int)<(n:Int):=by omega
 have hsf:∀(W:World) (a:Addr) (r:Nat),(store a (.float .f64 r)).run Tryz.prog W=stored Tryz.prog W a (.float .f64 r) .plain:=fun W a r=>run_store _ W a _ _ rfl;have HC:=hid (hT.copy #[.string t.service,.string t.split,.float .f64 t.weight] 58);have Hok:=hid ok;obtain ⟨vv,rfl,eE⟩:=hf.shape;simp only[bW,eE];clear eE;clear hf ok hT hj;dsimp only[G4,c9,aH,aD,ncb,nce,ncl,nco,ncr,nct,ncx,Tryz.f29]
 go_wp2;refine Hok.o _ _ w.heap.size ?_ HC.o;exact ⟨rfl,rfl,rfl,rfl,rfl,rfl,rfl,rfl,rfl⟩
theorem JV (X:Code) {t:Tgt} (hT:TrS w1 w r ev tv rv bb wb (some (tb,qg t)) ns) (hl:ns.length<1048576) (hp:lv<ns.length) (hf:TwTb a bb wb lv lw n j tb)
 (ok:∀a' w',TwTk a' bb wb lv lw n j tb ns.length->TrS w1 w' r ev tv rv bb wb (some (tb,qg t)) (aI ns lv (.br 2 ⟨#[]⟩ .nil .nil))->X.wp Tryz.prog Q a' w'):(Code.seq G3 X).wp Tryz.prog Q a w:=by
 have HC:=hid (kR hT hl lv hp 2 (by decide) ⟨#[]⟩ (by decide));obtain ⟨nl,hnl⟩:=ex (ns.length);rw[<-hnl]at HC ok;have Hok:=hid ok;obtain ⟨vv,rfl,eE⟩:=hf.shape;simp only[bW,eE];clear eE;clear hf ok hT hl hp hnl;dsimp only[G3,c9,aH,aD,ncb,nce,ncl,nco,ncr,nct,ncx,Tryz.f29]
 go_wp2_with fail
 refine HC.o.mono ?_;rintro x w2 ⟨rfl,h2⟩;have H2:=hid h2;clear h2 HC;go_wp2;exact Hok.o _ _ ⟨rfl,rfl,rfl,rfl,rfl,rfl,rfl,rfl,rfl,rfl⟩ H2.o
theorem GO (X:Code) {t:Tgt} (hT:TrS w1 w r ev tv rv bb wb (some (tb,qg t)) ns) (hl:ns.length<1048576) (hp:k<ns.length) (hs1:t.service≠⟨#[]⟩) (hs:(t.service:ByteArray).size<=1048576) (hf:TwTk a bb wb lv lw n j tb k)
 (ok:∀a' w',TwTk a' bb wb lv lw n j tb k->TrS w1 w' r ev tv rv bb wb (some (tb,qg t)) (aI ns k (aJ bd t.service .nil))->X.wp Tryz.prog Q a' w'):(Code.seq A4 X).wp Tryz.prog Q a w:=by
 obtain ⟨c0,c1,c2,c3,c4,c5,c6,c7⟩:=hT.cells;obtain ⟨d0,d1,d2⟩:=kt hT.held;have t1:=iq hs1;have HC:=hid (eu hT hl k hp bd (by decide) (t.service) hs);have Hok:=hid ok;obtain ⟨vv,rfl,eE⟩:=hf.shape;simp only[bW,eE];clear eE;clear hf ok hT hl hp hs hs1;unfold bd at HC;dsimp only[A4,c9,aH,aD,ncb,nce,ncl,nco,ncr,nct,ncx,Tryz.f29]
 go_wp2_with fail
 refine HC.o.mono ?_;rintro x w2 ⟨⟨v,rfl⟩,h2⟩;have H2:=hid h2;clear h2 HC;go_wp2;exact Hok.o _ _ ⟨rfl,rfl,rfl,rfl,rfl,rfl,rfl,rfl,rfl,rfl⟩ H2.o
theorem GP (X:Code) {t:Tgt} (hT:TrS w1 w r ev tv rv bb wb (some (tb,qg t)) ns) (hl:ns.length<1048576) (hp:k<ns.length) (hs1:t.service=⟨#[]⟩) (hs:(t.split:ByteArray).size<=1048576) (hf:TwTk a bb wb lv lw n j tb k)
 (ok:∀a' w',TwTk a' bb wb lv lw n j tb k->TrS w1 w' r ev tv rv bb wb (some (tb,qg t)) (aI ns k (aJ aU t.split .nil))->X.wp Tryz.prog Q a' w'):(Code.seq A4 X).wp Tryz.prog Q a w:=by
 obtain ⟨c0,c1,c2,c3,c4,c5,c6,c7⟩:=hT.cells;obtain ⟨d0,d1,d2⟩:=kt hT.held;rw[hs1]at d0;have HC:=hid (eu hT hl k hp aU (by decide) (t.split) hs);have Hok:=hid ok;obtain ⟨vv,rfl,eE⟩:=hf.shape;simp only[bW,eE];clear eE;clear hf ok hT hl hp hs hs1;unfold aU at HC;dsimp only[A4,c9,aH,aD,ncb,nce,ncl,nco,ncr,nct,ncx,Tryz.f29]
 go_wp2_with fail
 refine HC.o.mono ?_;rintro x w2 ⟨⟨v,rfl⟩,h2⟩;have H2:=hid h2;clear h2 HC;go_wp2;exact Hok.o _ _ ⟨rfl,rfl,rfl,rfl,rfl,rfl,rfl,rfl,rfl,rfl⟩ H2.o
theorem Gr {t:Tgt} (hT:TrS w1 w r ev tv rv bb wb (some (tb,qg t)) ns) (hl:ns.length<1048576) (hp:k<ns.length) (hw:t.weight<18446744073709551616) (hf:TwTk a bb wb lv lw n j tb k)
 (ok:∀a' w',TwTk a' bb wb lv lw n j tb k->TrS w1 w' r ev tv rv bb wb (some (tb,qg t)) (aI ns k (aJ bD (wtF t.weight) .nil))->Q .normal a' w'):G1.wp Tryz.prog Q a w:=by
 obtain ⟨d0,d1,d2⟩:=kt hT.held;have HW:=hid (yI w t.weight hw hT.glob);have HC:=hid (fun w2 (hb:Below w.heap.size w w2)=>eu (hT.later hb) hl k hp bD (by decide) (wtF t.weight) (aAe (AQ hw) (by decide)));have Hok:=hid ok;obtain ⟨vv,rfl,eE⟩:=hf.shape;simp only[bW,eE];clear eE;clear hf ok hT hl hp hw;unfold bD at HC;dsimp only[G1,c9,aH,aD,ncb,nce,ncl,nco,ncr,nct,ncx,Tryz.f29]
 go_wp2_with fail
 refine HW.o.mono ?_;rintro x w2 ⟨rfl,hb⟩;have HC2:=hid (HC.o w2 hb);clear hb HC HW
 go_wp2_with fail
 refine HC2.o.mono ?_;rintro x w3 ⟨⟨v,rfl⟩,h2⟩;have H2:=hid h2;clear h2 HC2;go_wp2;exact Hok.o _ _ ⟨rfl,rfl,rfl,rfl,rfl,rfl,rfl,rfl,rfl,rfl⟩ H2.o
theorem Gn (X:Code) {lb lo lc:Nat} {u:Rul} (hT:TrS w1 w r ev tv rv bb wb none ns) (hj:j<n) (z0:w.cell? ⟨lb,lo+j*4,none⟩=some (.string u.path)) (z1:w.cell? ⟨lb,lo+j*4+1,none⟩=some (.string u.method)) (z2:w.cell? ⟨lb,lo+j*4+2,none⟩=some (.string u.split)) (z3:w.cell? ⟨lb,lo+j*4+3,none⟩=some (.bool u.allow)) (hf:TwU a bb wb lv (.slice (some ⟨lb,lo,none⟩) n lc) n j)
 (ok:∀a' w' tb,TwUb a' bb wb lv (.slice (some ⟨lb,lo,none⟩) n lc) n j tb->TrS w1 w' r ev tv rv bb wb (some (tb,lN u)) ns->X.wp Tryz.prog Q a' w'):(Code.seq Ed X).wp Tryz.prog Q a w:=by
 have bj:(j:Int)<(n:Int):=by omega
 have HC:=hid (hT.copy #[.string u.path,.string u.method,.string u.split,.bool u.allow] 60);have Hok:=hid ok;obtain ⟨vv,rfl,eE⟩:=hf.shape;simp only[bW,eE];clear eE;clear hf ok hT hj;dsimp only[Ed,cD,b9,aH,aD,ncb,nce,ncl,nco,ncr,nct,ncx,Tryz.f29];go_wp2;refine Hok.o _ _ w.heap.size ?_ HC.o;exact ⟨rfl,rfl,rfl,rfl,rfl,rfl,rfl,rfl,rfl⟩
theorem Gm (X:Code) {u:Rul} (hT:TrS w1 w r ev tv rv bb wb (some (tb,lN u)) ns) (hl:ns.length<1048576) (hp:lv<ns.length) (hf:TwUb a bb wb lv lw n j tb)
 (ok:∀a' w',TwUk a' bb wb lv lw n j tb ns.length->TrS w1 w' r ev tv rv bb wb (some (tb,lN u)) (aI ns lv (.br 2 ⟨#[]⟩ .nil .nil))->X.wp Tryz.prog Q a' w'):(Code.seq Ec X).wp Tryz.prog Q a w:=by
 have HC:=hid (kR hT hl lv hp 2 (by decide) ⟨#[]⟩ (by decide));obtain ⟨nl,hnl⟩:=ex (ns.length);rw[<-hnl]at HC ok;have Hok:=hid ok;obtain ⟨vv,rfl,eE⟩:=hf.shape;simp only[bW,eE];clear eE;clear hf ok hT hl hp hnl;dsimp only[Ec,eP,cD,b9,aH,aD,ncb,nce,ncl,nco,ncr,nct,ncx,Tryz.f29]
 go_wp2_with fail
 refine HC.o.mono ?_;rintro x w2 ⟨rfl,h2⟩;have H2:=hid h2;clear h2 HC;go_wp2;exact Hok.o _ _ ⟨rfl,rfl,rfl,rfl,rfl,rfl,rfl,rfl,rfl,rfl⟩ H2.o
theorem Gl (X:Code) {u:Rul} (hT:TrS w1 w r ev tv rv bb wb (some (tb,lN u)) ns) (hl:ns.length<1048576) (hp:k<ns.length) (hs:(u.path:ByteArray).size<=1048576) (hf:TwUk a bb wb lv lw n j tb k)
 (ok:∀a' w',TwUk a' bb wb lv lw n j tb k->TrS w1 w' r ev tv rv bb wb (some (tb,lN u)) (aI ns k (aJ bV u.path .nil))->X.wp Tryz.prog Q a' w'):(Code.seq Eb X).wp Tryz.prog Q a w:=by
 obtain ⟨c0,c1,c2,c3,c4,c5,c6,c7⟩:=hT.cells;obtain ⟨d0,d1,d2,d3⟩:=gN hT.held;have HC:=hid (eu hT hl k hp bV (by decide) (u.path) hs);have Hok:=hid ok;obtain ⟨vv,rfl,eE⟩:=hf.shape;simp only[bW,eE];clear eE;clear hf ok hT hl hp hs;unfold bV at HC;dsimp only[Eb,eP,cD,b9,aH,aD,ncb,nce,ncl,nco,ncr,nct,ncx,Tryz.f29]
 go_wp2_with fail
 refine HC.o.mono ?_;rintro x w2 ⟨⟨v,rfl⟩,h2⟩;have H2:=hid h2;clear h2 HC;go_wp2;exact Hok.o _ _ ⟨rfl,rfl,rfl,rfl,rfl,rfl,rfl,rfl,rfl,rfl⟩ H2.o
theorem Gk (X:Code) {u:Rul} (hT:TrS w1 w r ev tv rv bb wb (some (tb,lN u)) ns) (hl:ns.length<1048576) (hp:k<ns.length) (hs:(u.method:ByteArray).size<=1048576) (hf:TwUk a bb wb lv lw n j tb k)
 (ok:∀a' w',TwUk a' bb wb lv lw n j tb k->TrS w1 w' r ev tv rv bb wb (some (tb,lN u)) (aI ns k (aJ bA u.method .nil))->X.wp Tryz.prog Q a' w'):(Code.seq Ea X).wp Tryz.prog Q a w:=by
 obtain ⟨c0,c1,c2,c3,c4,c5,c6,c7⟩:=hT.cells;obtain ⟨d0,d1,d2,d3⟩:=gN hT.held;have HC:=hid (eu hT hl k hp bA (by decide) (u.method) hs);have Hok:=hid ok;obtain ⟨vv,rfl,eE⟩:=hf.shape;simp only[bW,eE];clear eE;clear hf ok hT hl hp hs;unfold bA at HC;dsimp only[Ea,eP,cD,b9,aH,aD,ncb,nce,ncl,nco,ncr,nct,ncx,Tryz.f29]
 go_wp2_with fail
 refine HC.o.mono ?_;rintro x w2 ⟨⟨v,rfl⟩,h2⟩;have H2:=hid h2;clear h2 HC;go_wp2;exact Hok.o _ _ ⟨rfl,rfl,rfl,rfl,rfl,rfl,rfl,rfl,rfl,rfl⟩ H2.o
theorem GI {u:Rul} (hT:TrS w1 w r ev tv rv bb wb (some (tb,lN u)) ns) (hl:ns.length<1048576) (hp:k<ns.length) (hk:r.kind=3) (hs:(u.split:ByteArray).size<=1048576) (hf:TwUk a bb wb lv lw n j tb k)
 (ok:∀a' w',TwUk a' bb wb lv lw n j tb k->TrS w1 w' r ev tv rv bb wb (some (tb,lN u)) (aI ns k (aJ aU u.split .nil))->Q .normal a' w'):yQ.wp Tryz.prog Q a w:=by
 obtain ⟨c0,c1,c2,c3,c4,c5,c6,c7⟩:=hT.cells;obtain ⟨d0,d1,d2,d3⟩:=gN hT.held;rw[hk]at c0;have HC:=hid (eu hT hl k hp aU (by decide) (u.split) hs);have Hok:=hid ok;obtain ⟨vv,rfl,eE⟩:=hf.shape;simp only[bW,eE];clear eE;clear hf ok hT hl hp hs;unfold aU at HC;dsimp only[yQ,eP,cD,b9,aH,aD,ncb,nce,ncl,nco,ncr,nct,ncx,Tryz.f29]
 go_wp2_with fail
 refine HC.o.mono ?_;rintro x w2 ⟨⟨v,rfl⟩,h2⟩;have H2:=hid h2;clear h2 HC;go_wp2;exact Hok.o _ _ ⟨rfl,rfl,rfl,rfl,rfl,rfl,rfl,rfl,rfl,rfl⟩ H2.o
theorem GJ {u:Rul} (hT:TrS w1 w r ev tv rv bb wb (some (tb,lN u)) ns) (hk:r.kind=4) (hf:TwUk a bb wb lv lw n j tb k)
 (ok:∀a',TwUk a' bb wb lv lw n j tb k->Q .normal a' w):yQ.wp Tryz.prog Q a w:=by
 obtain ⟨c0,c1,c2,c3,c4,c5,c6,c7⟩:=hT.cells;rw[hk]at c0;have Hok:=hid ok;obtain ⟨vv,rfl,eE⟩:=hf.shape;simp only[bW,eE];clear eE;clear hf ok hT;dsimp only[yQ,eP,cD,b9,aH,aD,ncb,nce,ncl,nco,ncr,nct,ncx,Tryz.f29];go_wp2;exact Hok.o _ ⟨rfl,rfl,rfl,rfl,rfl,rfl,rfl,rfl,rfl,rfl⟩
theorem GL (X:Code) {u:Rul} (hT:TrS w1 w r ev tv rv bb wb (some (tb,lN u)) ns) (hk:r.kind=3) (hf:TwUk a bb wb lv lw n j tb k)
 (ok:∀a',TwUk a' bb wb lv lw n j tb k->X.wp Tryz.prog Q a' w):(Code.seq yR X).wp Tryz.prog Q a w:=by
 obtain ⟨c0,c1,c2,c3,c4,c5,c6,c7⟩:=hT.cells;rw[hk]at c0;have Hok:=hid ok;obtain ⟨vv,rfl,eE⟩:=hf.shape;simp only[bW,eE];clear eE;clear hf ok hT;dsimp only[yR,eP,cD,b9,aH,aD,ncb,nce,ncl,nco,ncr,nct,ncx,Tryz.f29];go_wp2;exact Hok.o _ ⟨rfl,rfl,rfl,rfl,rfl,rfl,rfl,rfl,rfl,rfl⟩
theorem GN (X:Code) (hT:TrS w1 w r ev tv rv bb wb none ns) (hl:ns.length<1048576) (hp:k0<ns.length) (hk:r.kind=3) (hs:(r.host:ByteArray).size<=1048576) (hf:TwP a bb wb k0)
 (ok:∀a' w',TwP a' bb wb k0->TrS w1 w' r ev tv rv bb wb none (aI ns k0 (aJ fM r.host .nil))->X.wp Tryz.prog Q a' w'):(Code.seq yS X).wp Tryz.prog Q a w:=by
 obtain ⟨c0,c1,c2,c3,c4,c5,c6,c7⟩:=hT.cells;rw[hk]at c0;have HC:=hid (eu hT hl k0 hp fM (by decide) (r.host) hs);have Hok:=hid ok;obtain ⟨vv,rfl,eE⟩:=hf.shape;simp only[bW,eE];clear eE;clear hf ok hT hl hp hs;unfold fM at HC;dsimp only[yS,b9,aH,aD,ncb,nce,ncl,ncr,nct,ncx,Tryz.f29]
 go_wp2_with fail
 refine HC.o.mono ?_;rintro x w2 ⟨⟨v,rfl⟩,h2⟩;have H2:=hid h2;clear h2 HC;go_wp2;exact Hok.o _ _ ⟨rfl,rfl,rfl,rfl,rfl⟩ H2.o
theorem GM (X:Code) (hT:TrS w1 w r ev tv rv bb wb none ns) (hl:ns.length<1048576) (hp:k0<ns.length) (hk:r.kind=4) (hs:(r.route:ByteArray).size<=1048576) (hf:TwP a bb wb k0)
 (ok:∀a' w',TwP a' bb wb k0->TrS w1 w' r ev tv rv bb wb none (aI ns k0 (aJ ed r.route .nil))->X.wp Tryz.prog Q a' w'):(Code.seq yS X).wp Tryz.prog Q a w:=by
 obtain ⟨c0,c1,c2,c3,c4,c5,c6,c7⟩:=hT.cells;rw[hk]at c0;have HC:=hid (eu hT hl k0 hp ed (by decide) (r.route) hs);have Hok:=hid ok;obtain ⟨vv,rfl,eE⟩:=hf.shape;simp only[bW,eE];clear eE;clear hf ok hT hl hp hs;unfold ed at HC;dsimp only[yS,b9,aH,aD,ncb,nce,ncl,ncr,nct,ncx,Tryz.f29]
 go_wp2_with fail
 refine HC.o.mono ?_;rintro x w2 ⟨⟨v,rfl⟩,h2⟩;have H2:=hid h2;clear h2 HC;go_wp2;exact Hok.o _ _ ⟨rfl,rfl,rfl,rfl,rfl⟩ H2.o
end
