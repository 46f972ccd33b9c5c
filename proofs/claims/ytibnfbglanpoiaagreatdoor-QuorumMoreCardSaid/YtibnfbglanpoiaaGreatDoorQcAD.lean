/- Parts of one proof, merged: XBP XBQ XBX XBF XBY. -/
import Derived.Test.YtibnfbglanpoiaaGreatDoorQcS
import Derived.Test.YtibnfbglanpoiaaGreatDoorQcAA
import Derived.Test.YtibnfbglanpoiaaGreatDoorQcAC
set_option linter.all false
set_option maxHeartbeats 12800000
set_option maxRecDepth 10000
set_option linter.unusedVariables false
set_option linter.unusedSimpArgs false
set_option linter.unnecessarySimpa false
namespace Go.Proofs.YtibnfbglanpoiaaGreatDoor
open Go.Proofs.Tryz
set_option maxRecDepth 100000 in
theorem sec_0_0_0:yy [113] 0 0 0=[146,14,248,91,51,53,30,102,195,203,129,191,194,148,64,218,133,128,251,29,64,162,65,24,202,32,174,221,245,86,80,196]:=by decide +kernel
set_option maxRecDepth 100000 in
theorem sum_0_0_0:zY [146,14,248,91,51,53,30,102,195,203,129,191,194,148,64,218,133,128,251,29,64,162,65,24,202,32,174,221,245,86,80,196]=[180,234,83,169,112,27,239,222,40,77,202,239,153,23,112,152,168,158,42,41,211,179,133,242,175,225,82,25,35,207,202,172]:=by decide +kernel
set_option maxRecDepth 100000 in
theorem sec_0_0_1:yy [113] 0 0 1=[76,96,22,100,113,233,55,212,166,59,61,129,42,170,97,84,25,185,219,122,181,157,192,141,145,140,221,3,247,24,92,171]:=by decide +kernel
set_option maxRecDepth 100000 in
theorem sum_0_0_1:zY [76,96,22,100,113,233,55,212,166,59,61,129,42,170,97,84,25,185,219,122,181,157,192,141,145,140,221,3,247,24,92,171]=[209,39,198,37,72,13,185,168,69,224,26,94,0,224,181,187,174,199,23,18,171,197,219,6,165,67,229,88,87,145,128,52]:=by decide +kernel
theorem duo_0_0:xL [113] 0 0=[180,234,83,169,112,27,239,222,40,77,202,239,153,23,112,152,168,158,42,41,211,179,133,242,175,225,82,25,35,207,202,172,209,39,198,37,72,13,185,168,69,224,26,94,0,224,181,187,174,199,23,18,171,197,219,6,165,67,229,88,87,145,128,52]:=by
 unfold xL;rw [sec_0_0_0,sum_0_0_0,sec_0_0_1,sum_0_0_1];rfl
set_option maxRecDepth 100000 in
theorem sec_0_1_0:yy [113] 0 1 0=[209,47,28,244,4,222,200,245,172,63,236,126,4,66,150,230,149,155,112,178,207,43,181,122,49,128,168,7,74,53,163,190]:=by decide +kernel
set_option maxRecDepth 100000 in
theorem sum_0_1_0:zY [209,47,28,244,4,222,200,245,172,63,236,126,4,66,150,230,149,155,112,178,207,43,181,122,49,128,168,7,74,53,163,190]=[0,208,2,92,214,120,28,163,161,168,21,9,161,53,38,22,254,82,153,114,226,29,220,11,229,227,185,210,191,124,11,120]:=by decide +kernel
set_option maxRecDepth 100000 in
theorem sec_0_1_1:yy [113] 0 1 1=[10,50,36,156,22,213,42,101,170,107,130,19,33,228,69,75,32,114,43,0,122,87,36,44,156,77,159,110,131,1,223,33]:=by decide +kernel
set_option maxRecDepth 100000 in
theorem sum_0_1_1:zY [10,50,36,156,22,213,42,101,170,107,130,19,33,228,69,75,32,114,43,0,122,87,36,44,156,77,159,110,131,1,223,33]=[109,65,66,194,210,133,211,29,39,214,142,182,110,234,132,3,114,247,91,107,205,89,95,73,174,225,32,23,46,57,232,143]:=by decide +kernel
theorem duo_0_1:xL [113] 0 1=[0,208,2,92,214,120,28,163,161,168,21,9,161,53,38,22,254,82,153,114,226,29,220,11,229,227,185,210,191,124,11,120,109,65,66,194,210,133,211,29,39,214,142,182,110,234,132,3,114,247,91,107,205,89,95,73,174,225,32,23,46,57,232,143]:=by
 unfold xL;rw [sec_0_1_0,sum_0_1_0,sec_0_1_1,sum_0_1_1];rfl
set_option maxRecDepth 100000 in
theorem sec_0_2_0:yy [113] 0 2 0=[84,125,209,151,90,243,135,73,95,190,144,107,48,182,240,16,134,36,180,243,217,59,68,12,251,193,241,104,182,87,19,119]:=by decide +kernel
set_option maxRecDepth 100000 in
theorem sum_0_2_0:zY [84,125,209,151,90,243,135,73,95,190,144,107,48,182,240,16,134,36,180,243,217,59,68,12,251,193,241,104,182,87,19,119]=[152,143,246,78,12,196,38,157,163,117,229,176,212,59,62,74,58,93,129,242,106,81,115,241,222,208,248,236,34,6,241,207]:=by decide +kernel
set_option maxRecDepth 100000 in
theorem sec_0_2_1:yy [113] 0 2 1=[231,249,73,193,128,150,237,34,38,46,157,130,200,207,190,240,228,184,47,87,249,49,148,254,208,247,177,173,50,27,106,185]:=by decide +kernel
set_option maxRecDepth 100000 in
theorem sum_0_2_1:zY [231,249,73,193,128,150,237,34,38,46,157,130,200,207,190,240,228,184,47,87,249,49,148,254,208,247,177,173,50,27,106,185]=[82,215,97,169,11,246,6,8,146,199,132,77,145,149,251,237,140,233,114,182,11,96,14,80,128,133,189,183,126,114,23,48]:=by decide +kernel
theorem duo_0_2:xL [113] 0 2=[152,143,246,78,12,196,38,157,163,117,229,176,212,59,62,74,58,93,129,242,106,81,115,241,222,208,248,236,34,6,241,207,82,215,97,169,11,246,6,8,146,199,132,77,145,149,251,237,140,233,114,182,11,96,14,80,128,133,189,183,126,114,23,48]:=by
 unfold xL;rw [sec_0_2_0,sum_0_2_0,sec_0_2_1,sum_0_2_1];rfl
set_option maxRecDepth 100000 in
theorem sec_0_3_0:yy [113] 0 3 0=[188,134,194,239,72,227,53,177,91,54,42,116,148,10,54,213,150,207,217,230,134,148,146,33,88,229,207,52,211,66,145,229]:=by decide +kernel
set_option maxRecDepth 100000 in
theorem sum_0_3_0:zY [188,134,194,239,72,227,53,177,91,54,42,116,148,10,54,213,150,207,217,230,134,148,146,33,88,229,207,52,211,66,145,229]=[166,191,175,212,147,130,133,25,56,69,132,166,224,244,74,169,174,153,250,92,210,19,93,17,184,181,166,125,125,214,53,198]:=by decide +kernel
set_option maxRecDepth 100000 in
theorem sec_0_3_1:yy [113] 0 3 1=[192,38,217,223,111,77,72,47,170,110,74,146,125,216,255,22,88,252,66,83,144,249,59,249,210,46,221,46,111,138,76,190]:=by decide +kernel
set_option maxRecDepth 100000 in
theorem sum_0_3_1:zY [192,38,217,223,111,77,72,47,170,110,74,146,125,216,255,22,88,252,66,83,144,249,59,249,210,46,221,46,111,138,76,190]=[236,39,217,170,171,120,190,187,196,9,208,252,144,46,27,18,82,225,244,60,65,26,244,181,99,3,6,145,61,42,146,208]:=by decide +kernel
theorem duo_0_3:xL [113] 0 3=[166,191,175,212,147,130,133,25,56,69,132,166,224,244,74,169,174,153,250,92,210,19,93,17,184,181,166,125,125,214,53,198,236,39,217,170,171,120,190,187,196,9,208,252,144,46,27,18,82,225,244,60,65,26,244,181,99,3,6,145,61,42,146,208]:=by
 unfold xL;rw [sec_0_3_0,sum_0_3_0,sec_0_3_1,sum_0_3_1];rfl
set_option maxRecDepth 100000 in
theorem sec_0_4_0:yy [113] 0 4 0=[189,50,186,193,197,157,60,190,23,150,140,226,205,2,89,222,93,164,146,8,51,237,134,141,9,134,52,255,237,218,63,204]:=by decide +kernel
set_option maxRecDepth 100000 in
theorem sum_0_4_0:zY [189,50,186,193,197,157,60,190,23,150,140,226,205,2,89,222,93,164,146,8,51,237,134,141,9,134,52,255,237,218,63,204]=[187,107,55,237,1,114,251,62,45,40,87,160,9,91,181,126,178,31,92,101,85,61,9,127,147,193,240,236,98,88,167,209]:=by decide +kernel
set_option maxRecDepth 100000 in
theorem sec_0_4_1:yy [113] 0 4 1=[52,209,81,85,83,91,40,66,108,51,200,68,126,26,132,143,94,238,238,41,181,116,217,172,239,138,221,250,249,4,67,15]:=by decide +kernel
set_option maxRecDepth 100000 in
theorem sum_0_4_1:zY [52,209,81,85,83,91,40,66,108,51,200,68,126,26,132,143,94,238,238,41,181,116,217,172,239,138,221,250,249,4,67,15]=[150,245,222,7,82,132,224,113,208,107,42,231,21,173,113,68,150,50,143,3,162,189,17,229,221,68,57,150,168,123,243,14]:=by decide +kernel
theorem duo_0_4:xL [113] 0 4=[187,107,55,237,1,114,251,62,45,40,87,160,9,91,181,126,178,31,92,101,85,61,9,127,147,193,240,236,98,88,167,209,150,245,222,7,82,132,224,113,208,107,42,231,21,173,113,68,150,50,143,3,162,189,17,229,221,68,57,150,168,123,243,14]:=by
 unfold xL;rw [sec_0_4_0,sum_0_4_0,sec_0_4_1,sum_0_4_1];rfl
set_option maxRecDepth 100000 in
theorem sec_0_5_0:yy [113] 0 5 0=[202,226,216,104,85,114,43,12,218,87,149,22,225,180,176,69,38,162,180,46,250,235,210,48,22,171,143,27,109,15,236,126]:=by decide +kernel
set_option maxRecDepth 100000 in
theorem sum_0_5_0:zY [202,226,216,104,85,114,43,12,218,87,149,22,225,180,176,69,38,162,180,46,250,235,210,48,22,171,143,27,109,15,236,126]=[12,176,120,29,55,254,197,148,149,64,166,23,154,251,106,62,101,166,75,65,150,90,159,184,69,71,158,81,158,56,134,145]:=by decide +kernel
set_option maxRecDepth 100000 in
theorem sec_0_5_1:yy [113] 0 5 1=[135,211,148,61,194,67,8,179,167,105,227,173,167,32,42,40,73,24,4,234,191,222,204,234,254,173,134,70,240,176,123,110]:=by decide +kernel
set_option maxRecDepth 100000 in
theorem sum_0_5_1:zY [135,211,148,61,194,67,8,179,167,105,227,173,167,32,42,40,73,24,4,234,191,222,204,234,254,173,134,70,240,176,123,110]=[54,253,183,216,243,111,21,50,152,250,86,140,94,26,227,81,16,172,186,15,35,150,160,246,16,57,47,243,74,159,252,40]:=by decide +kernel
theorem duo_0_5:xL [113] 0 5=[12,176,120,29,55,254,197,148,149,64,166,23,154,251,106,62,101,166,75,65,150,90,159,184,69,71,158,81,158,56,134,145,54,253,183,216,243,111,21,50,152,250,86,140,94,26,227,81,16,172,186,15,35,150,160,246,16,57,47,243,74,159,252,40]:=by
 unfold xL;rw [sec_0_5_0,sum_0_5_0,sec_0_5_1,sum_0_5_1];rfl
set_option maxRecDepth 100000 in
theorem sec_0_6_0:yy [113] 0 6 0=[116,79,231,71,18,89,193,215,236,96,107,37,137,180,70,98,188,184,16,21,212,144,178,168,5,223,62,63,70,105,205,59]:=by decide +kernel
set_option maxRecDepth 100000 in
theorem sum_0_6_0:zY [116,79,231,71,18,89,193,215,236,96,107,37,137,180,70,98,188,184,16,21,212,144,178,168,5,223,62,63,70,105,205,59]=[63,109,95,210,218,1,162,98,218,122,52,180,72,238,222,152,154,39,217,162,39,146,229,114,35,133,125,22,251,117,231,81]:=by decide +kernel
set_option maxRecDepth 100000 in
theorem sec_0_6_1:yy [113] 0 6 1=[173,134,158,150,152,226,193,241,89,147,255,47,70,69,150,37,194,87,22,239,31,44,241,170,119,24,216,50,159,82,136,253]:=by decide +kernel
set_option maxRecDepth 100000 in
theorem sum_0_6_1:zY [173,134,158,150,152,226,193,241,89,147,255,47,70,69,150,37,194,87,22,239,31,44,241,170,119,24,216,50,159,82,136,253]=[27,118,172,130,157,14,183,182,128,254,131,116,110,96,170,8,48,97,161,152,114,113,239,154,129,221,134,3,117,125,254,15]:=by decide +kernel
theorem duo_0_6:xL [113] 0 6=[63,109,95,210,218,1,162,98,218,122,52,180,72,238,222,152,154,39,217,162,39,146,229,114,35,133,125,22,251,117,231,81,27,118,172,130,157,14,183,182,128,254,131,116,110,96,170,8,48,97,161,152,114,113,239,154,129,221,134,3,117,125,254,15]:=by
 unfold xL;rw [sec_0_6_0,sum_0_6_0,sec_0_6_1,sum_0_6_1];rfl
set_option maxRecDepth 100000 in
theorem sec_0_7_0:yy [113] 0 7 0=[211,171,146,79,30,217,227,118,155,19,186,143,57,120,164,194,34,199,214,50,164,169,121,187,228,255,76,46,188,17,110,56]:=by decide +kernel
set_option maxRecDepth 100000 in
theorem sum_0_7_0:zY [211,171,146,79,30,217,227,118,155,19,186,143,57,120,164,194,34,199,214,50,164,169,121,187,228,255,76,46,188,17,110,56]=[82,109,113,14,142,148,163,225,142,164,251,138,10,213,186,222,163,228,100,126,201,248,61,208,205,79,139,52,195,205,131,222]:=by decide +kernel
set_option maxRecDepth 100000 in
theorem sec_0_7_1:yy [113] 0 7 1=[222,125,135,120,213,112,98,110,59,53,247,187,26,210,6,133,254,230,246,51,162,131,181,41,160,56,41,95,120,20,1,150]:=by decide +kernel
set_option maxRecDepth 100000 in
theorem sum_0_7_1:zY [222,125,135,120,213,112,98,110,59,53,247,187,26,210,6,133,254,230,246,51,162,131,181,41,160,56,41,95,120,20,1,150]=[245,218,6,174,219,52,179,241,69,153,7,79,23,133,93,191,48,164,118,182,229,96,48,132,69,126,189,147,202,84,189,28]:=by decide +kernel
theorem duo_0_7:xL [113] 0 7=[82,109,113,14,142,148,163,225,142,164,251,138,10,213,186,222,163,228,100,126,201,248,61,208,205,79,139,52,195,205,131,222,245,218,6,174,219,52,179,241,69,153,7,79,23,133,93,191,48,164,118,182,229,96,48,132,69,126,189,147,202,84,189,28]:=by
 unfold xL;rw [sec_0_7_0,sum_0_7_0,sec_0_7_1,sum_0_7_1];rfl
set_option maxRecDepth 100000 in
theorem sec_1_0_0:yy [113] 1 0 0=[111,145,194,81,178,119,84,94,150,162,113,199,166,207,75,215,192,61,5,213,216,2,115,67,93,5,110,8,18,242,139,110]:=by decide +kernel
set_option maxRecDepth 100000 in
theorem sum_1_0_0:zY [111,145,194,81,178,119,84,94,150,162,113,199,166,207,75,215,192,61,5,213,216,2,115,67,93,5,110,8,18,242,139,110]=[61,164,12,124,100,232,226,147,181,62,135,85,169,54,5,179,231,194,69,41,17,150,236,111,4,114,45,113,226,55,211,248]:=by decide +kernel
set_option maxRecDepth 100000 in
theorem sec_1_0_1:yy [113] 1 0 1=[41,254,95,223,252,46,78,254,241,243,96,82,116,2,232,218,164,114,1,228,233,204,245,242,201,192,220,239,227,231,101,48]:=by decide +kernel
set_option maxRecDepth 100000 in
theorem sum_1_0_1:zY [41,254,95,223,252,46,78,254,241,243,96,82,116,2,232,218,164,114,1,228,233,204,245,242,201,192,220,239,227,231,101,48]=[101,31,134,202,54,244,38,244,57,166,8,209,38,233,98,132,20,97,221,239,139,175,237,206,202,116,4,250,67,122,159,22]:=by decide +kernel
theorem duo_1_0:xL [113] 1 0=[61,164,12,124,100,232,226,147,181,62,135,85,169,54,5,179,231,194,69,41,17,150,236,111,4,114,45,113,226,55,211,248,101,31,134,202,54,244,38,244,57,166,8,209,38,233,98,132,20,97,221,239,139,175,237,206,202,116,4,250,67,122,159,22]:=by
 unfold xL;rw [sec_1_0_0,sum_1_0_0,sec_1_0_1,sum_1_0_1];rfl
set_option maxRecDepth 100000 in
theorem sec_1_1_0:yy [113] 1 1 0=[10,25,164,59,152,51,95,227,98,191,207,145,152,58,124,66,127,127,253,116,20,135,98,137,36,252,99,12,36,37,160,93]:=by decide +kernel
set_option maxRecDepth 100000 in
theorem sum_1_1_0:zY [10,25,164,59,152,51,95,227,98,191,207,145,152,58,124,66,127,127,253,116,20,135,98,137,36,252,99,12,36,37,160,93]=[64,79,153,224,7,60,210,9,57,193,186,166,88,136,243,32,147,231,239,97,134,245,64,48,179,32,205,79,82,82,175,46]:=by decide +kernel
set_option maxRecDepth 100000 in
theorem sec_1_1_1:yy [113] 1 1 1=[153,45,60,65,128,101,33,77,204,45,44,201,96,239,215,76,106,85,205,116,73,242,121,94,210,17,89,35,45,230,253,234]:=by decide +kernel
set_option maxRecDepth 100000 in
theorem sum_1_1_1:zY [153,45,60,65,128,101,33,77,204,45,44,201,96,239,215,76,106,85,205,116,73,242,121,94,210,17,89,35,45,230,253,234]=[248,154,27,76,69,210,123,222,79,171,181,26,229,70,15,92,83,243,89,110,83,183,144,218,248,183,39,122,5,32,143,126]:=by decide +kernel
theorem duo_1_1:xL [113] 1 1=[64,79,153,224,7,60,210,9,57,193,186,166,88,136,243,32,147,231,239,97,134,245,64,48,179,32,205,79,82,82,175,46,248,154,27,76,69,210,123,222,79,171,181,26,229,70,15,92,83,243,89,110,83,183,144,218,248,183,39,122,5,32,143,126]:=by
 unfold xL;rw [sec_1_1_0,sum_1_1_0,sec_1_1_1,sum_1_1_1];rfl
set_option maxRecDepth 100000 in
theorem sec_1_2_0:yy [113] 1 2 0=[175,240,79,142,56,136,95,179,78,6,210,17,39,21,196,126,209,176,212,40,110,105,63,22,69,11,205,83,240,156,237,33]:=by decide +kernel
set_option maxRecDepth 100000 in
theorem sum_1_2_0:zY [175,240,79,142,56,136,95,179,78,6,210,17,39,21,196,126,209,176,212,40,110,105,63,22,69,11,205,83,240,156,237,33]=[119,74,203,67,38,224,215,21,112,230,72,93,81,95,209,217,253,6,203,70,240,222,247,96,157,34,250,105,17,63,123,121]:=by decide +kernel
set_option maxRecDepth 100000 in
theorem sec_1_2_1:yy [113] 1 2 1=[124,206,16,214,209,229,120,110,91,162,244,226,73,106,165,91,179,92,129,99,66,216,43,204,153,252,79,75,123,90,243,202]:=by decide +kernel
set_option maxRecDepth 100000 in
theorem sum_1_2_1:zY [124,206,16,214,209,229,120,110,91,162,244,226,73,106,165,91,179,92,129,99,66,216,43,204,153,252,79,75,123,90,243,202]=[100,114,27,202,254,220,246,26,188,0,211,129,6,129,88,22,238,65,58,201,63,87,57,140,1,216,20,180,230,99,15,96]:=by decide +kernel
theorem duo_1_2:xL [113] 1 2=[119,74,203,67,38,224,215,21,112,230,72,93,81,95,209,217,253,6,203,70,240,222,247,96,157,34,250,105,17,63,123,121,100,114,27,202,254,220,246,26,188,0,211,129,6,129,88,22,238,65,58,201,63,87,57,140,1,216,20,180,230,99,15,96]:=by
 unfold xL;rw [sec_1_2_0,sum_1_2_0,sec_1_2_1,sum_1_2_1];rfl
set_option maxRecDepth 100000 in
theorem sec_1_3_0:yy [113] 1 3 0=[104,197,165,69,117,138,173,76,197,51,113,141,7,35,42,159,146,73,149,159,58,249,55,177,199,32,149,211,197,151,39,92]:=by decide +kernel
set_option maxRecDepth 100000 in
theorem sum_1_3_0:zY [104,197,165,69,117,138,173,76,197,51,113,141,7,35,42,159,146,73,149,159,58,249,55,177,199,32,149,211,197,151,39,92]=[164,236,183,88,79,170,138,171,189,177,35,29,239,219,253,253,142,61,188,248,75,130,70,186,91,193,41,90,228,86,203,14]:=by decide +kernel
set_option maxRecDepth 100000 in
theorem sec_1_3_1:yy [113] 1 3 1=[126,146,234,187,230,73,85,13,189,105,210,188,54,83,216,148,195,59,66,2,70,164,148,82,188,72,185,155,105,211,143,226]:=by decide +kernel
set_option maxRecDepth 100000 in
theorem sum_1_3_1:zY [126,146,234,187,230,73,85,13,189,105,210,188,54,83,216,148,195,59,66,2,70,164,148,82,188,72,185,155,105,211,143,226]=[232,248,68,57,89,115,111,75,71,255,101,169,49,150,109,61,24,206,116,238,29,53,2,215,0,163,127,118,133,240,239,248]:=by decide +kernel
theorem duo_1_3:xL [113] 1 3=[164,236,183,88,79,170,138,171,189,177,35,29,239,219,253,253,142,61,188,248,75,130,70,186,91,193,41,90,228,86,203,14,232,248,68,57,89,115,111,75,71,255,101,169,49,150,109,61,24,206,116,238,29,53,2,215,0,163,127,118,133,240,239,248]:=by
 unfold xL;rw [sec_1_3_0,sum_1_3_0,sec_1_3_1,sum_1_3_1];rfl
set_option maxRecDepth 100000 in
theorem sec_1_4_0:yy [113] 1 4 0=[177,192,139,1,54,192,255,10,98,34,106,142,242,83,133,79,139,144,41,120,45,235,225,196,0,29,231,149,77,2,89,74]:=by decide +kernel
set_option maxRecDepth 100000 in
theorem sum_1_4_0:zY [177,192,139,1,54,192,255,10,98,34,106,142,242,83,133,79,139,144,41,120,45,235,225,196,0,29,231,149,77,2,89,74]=[239,241,238,202,239,157,212,152,233,154,34,19,84,125,135,20,223,44,249,248,204,63,252,204,98,245,215,67,177,213,67,178]:=by decide +kernel
set_option maxRecDepth 100000 in
theorem sec_1_4_1:yy [113] 1 4 1=[34,218,76,205,230,112,204,19,244,94,96,124,14,86,167,199,56,87,16,252,152,81,207,188,127,117,221,128,120,195,37,26]:=by decide +kernel
set_option maxRecDepth 100000 in
theorem sum_1_4_1:zY [34,218,76,205,230,112,204,19,244,94,96,124,14,86,167,199,56,87,16,252,152,81,207,188,127,117,221,128,120,195,37,26]=[237,35,218,48,51,178,228,120,23,83,145,69,179,40,227,68,238,57,107,211,161,142,13,16,22,162,238,248,101,131,252,224]:=by decide +kernel
theorem duo_1_4:xL [113] 1 4=[239,241,238,202,239,157,212,152,233,154,34,19,84,125,135,20,223,44,249,248,204,63,252,204,98,245,215,67,177,213,67,178,237,35,218,48,51,178,228,120,23,83,145,69,179,40,227,68,238,57,107,211,161,142,13,16,22,162,238,248,101,131,252,224]:=by
 unfold xL;rw [sec_1_4_0,sum_1_4_0,sec_1_4_1,sum_1_4_1];rfl
set_option maxRecDepth 100000 in
theorem sec_1_5_0:yy [113] 1 5 0=[4,148,119,19,26,128,78,130,198,97,240,154,104,171,116,8,229,64,217,46,120,132,226,129,107,248,224,50,58,103,139,32]:=by decide +kernel
set_option maxRecDepth 100000 in
theorem sum_1_5_0:zY [4,148,119,19,26,128,78,130,198,97,240,154,104,171,116,8,229,64,217,46,120,132,226,129,107,248,224,50,58,103,139,32]=[111,243,74,20,139,133,127,0,113,88,90,156,38,139,228,41,117,134,79,76,91,168,41,140,244,70,2,141,170,60,190,24]:=by decide +kernel
set_option maxRecDepth 100000 in
theorem sec_1_5_1:yy [113] 1 5 1=[216,205,224,89,184,79,108,103,121,69,149,100,130,252,61,224,120,236,69,94,192,231,3,217,158,251,69,51,10,230,107,231]:=by decide +kernel
set_option maxRecDepth 100000 in
theorem sum_1_5_1:zY [216,205,224,89,184,79,108,103,121,69,149,100,130,252,61,224,120,236,69,94,192,231,3,217,158,251,69,51,10,230,107,231]=[189,181,130,220,240,66,170,135,254,63,7,198,74,146,187,232,6,152,203,3,65,236,104,233,47,117,26,32,58,236,148,66]:=by decide +kernel
theorem duo_1_5:xL [113] 1 5=[111,243,74,20,139,133,127,0,113,88,90,156,38,139,228,41,117,134,79,76,91,168,41,140,244,70,2,141,170,60,190,24,189,181,130,220,240,66,170,135,254,63,7,198,74,146,187,232,6,152,203,3,65,236,104,233,47,117,26,32,58,236,148,66]:=by
 unfold xL;rw [sec_1_5_0,sum_1_5_0,sec_1_5_1,sum_1_5_1];rfl
set_option maxRecDepth 100000 in
theorem sec_1_6_0:yy [113] 1 6 0=[236,162,131,48,150,169,30,168,187,132,31,199,35,10,222,208,101,142,22,214,65,219,78,221,69,216,181,151,235,1,4,180]:=by decide +kernel
set_option maxRecDepth 100000 in
theorem sum_1_6_0:zY [236,162,131,48,150,169,30,168,187,132,31,199,35,10,222,208,101,142,22,214,65,219,78,221,69,216,181,151,235,1,4,180]=[12,153,199,102,225,134,251,76,137,189,176,189,123,15,222,15,42,58,73,58,253,8,129,0,77,175,68,247,251,238,223,147]:=by decide +kernel
set_option maxRecDepth 100000 in
theorem sec_1_6_1:yy [113] 1 6 1=[193,49,209,50,143,26,55,76,180,6,14,176,210,70,254,212,171,238,244,196,187,64,197,111,253,82,29,121,16,6,16,136]:=by decide +kernel
set_option maxRecDepth 100000 in
theorem sum_1_6_1:zY [193,49,209,50,143,26,55,76,180,6,14,176,210,70,254,212,171,238,244,196,187,64,197,111,253,82,29,121,16,6,16,136]=[35,251,255,149,53,125,218,109,248,78,89,170,64,99,96,194,3,82,191,53,85,65,42,30,12,72,223,240,27,38,237,172]:=by decide +kernel
theorem duo_1_6:xL [113] 1 6=[12,153,199,102,225,134,251,76,137,189,176,189,123,15,222,15,42,58,73,58,253,8,129,0,77,175,68,247,251,238,223,147,35,251,255,149,53,125,218,109,248,78,89,170,64,99,96,194,3,82,191,53,85,65,42,30,12,72,223,240,27,38,237,172]:=by
 unfold xL;rw [sec_1_6_0,sum_1_6_0,sec_1_6_1,sum_1_6_1];rfl
set_option maxRecDepth 100000 in
theorem sec_1_7_0:yy [113] 1 7 0=[45,49,50,136,34,10,70,172,51,53,48,192,62,122,211,248,92,173,217,158,99,19,175,38,229,110,54,220,13,86,125,197]:=by decide +kernel
set_option maxRecDepth 100000 in
theorem sum_1_7_0:zY [45,49,50,136,34,10,70,172,51,53,48,192,62,122,211,248,92,173,217,158,99,19,175,38,229,110,54,220,13,86,125,197]=[176,133,109,66,48,184,251,219,156,147,112,237,88,230,46,111,109,227,148,102,153,174,150,28,148,33,203,113,255,194,167,81]:=by decide +kernel
set_option maxRecDepth 100000 in
theorem sec_1_7_1:yy [113] 1 7 1=[19,59,0,225,64,95,186,2,146,253,166,88,164,143,114,237,247,146,206,44,49,148,160,161,191,66,87,136,161,194,229,91]:=by decide +kernel
set_option maxRecDepth 100000 in
theorem sum_1_7_1:zY [19,59,0,225,64,95,186,2,146,253,166,88,164,143,114,237,247,146,206,44,49,148,160,161,191,66,87,136,161,194,229,91]=[151,221,151,153,163,70,138,228,240,99,240,231,152,219,55,118,159,206,155,233,249,121,17,114,49,176,243,31,66,243,160,159]:=by decide +kernel
theorem duo_1_7:xL [113] 1 7=[176,133,109,66,48,184,251,219,156,147,112,237,88,230,46,111,109,227,148,102,153,174,150,28,148,33,203,113,255,194,167,81,151,221,151,153,163,70,138,228,240,99,240,231,152,219,55,118,159,206,155,233,249,121,17,114,49,176,243,31,66,243,160,159]:=by
 unfold xL;rw [sec_1_7_0,sum_1_7_0,sec_1_7_1,sum_1_7_1];rfl
def pairs0:List UInt8:=[180,234,83,169,112,27,239,222,40,77,202,239,153,23,112,152,168,158,42,41,211,179,133,242,175,225,82,25,35,207,202,172,209,39,198,37,72,13,185,168,69,224,26,94,0,224,181,187,174,199,23,18,171,197,219,6,165,67,229,88,87,145,128,52,0,208,2,92,214,120,28,163,161,168,21,9,161,53,38,22,254,82,153,114,226,29,220,11,229,227,185,210,191,124,11,120,109,65,66,194,210,133,211,29,39,214,142,182,110,234,132,3,114,247,91,107,205,89,95,73,174,225,32,23,46,57,232,143,152,143,246,78,12,196,38,157,163,117,229,176,212,59,62,74,58,93,129,242,106,81,115,241,222,208,248,236,34,6,241,207,82,215,97,169,11,246,6,8,146,199,132,77,145,149,251,237,140,233,114,182,11,96,14,80,128,133,189,183,126,114,23,48,166,191,175,212,147,130,133,25,56,69,132,166,224,244,74,169,174,153,250,92,210,19,93,17,184,181,166,125,125,214,53,198,236,39,217,170,171,120,190,187,196,9,208,252,144,46,27,18,82,225,244,60,65,26,244,181,99,3,6,145,61,42,146,208,187,107,55,237,1,114,251,62,45,40,87,160,9,91,181,126,178,31,92,101,85,61,9,127,147,193,240,236,98,88,167,209,150,245,222,7,82,132,224,113,208,107,42,231,21,173,113,68,150,50,143,3,162,189,17,229,221,68,57,150,168,123,243,14,12,176,120,29,55,254,197,148,149,64,166,23,154,251,106,62,101,166,75,65,150,90,159,184,69,71,158,81,158,56,134,145,54,253,183,216,243,111,21,50,152,250,86,140,94,26,227,81,16,172,186,15,35,150,160,246,16,57,47,243,74,159,252,40,63,109,95,210,218,1,162,98,218,122,52,180,72,238,222,152,154,39,217,162,39,146,229,114,35,133,125,22,251,117,231,81,27,118,172,130,157,14,183,182,128,254,131,116,110,96,170,8,48,97,161,152,114,113,239,154,129,221,134,3,117,125,254,15,82,109,113,14,142,148,163,225,142,164,251,138,10,213,186,222,163,228,100,126,201,248,61,208,205,79,139,52,195,205,131,222,245,218,6,174,219,52,179,241,69,153,7,79,23,133,93,191,48,164,118,182,229,96,48,132,69,126,189,147,202,84,189,28]
set_option maxRecDepth 100000 in
theorem flat0:((List.range 8).map (xL [113] 0)).flatten=pairs0:=by
 rw [show List.range 8=[0,1,2,3,4,5,6,7] from rfl]
 simp only [List.map,duo_0_0,duo_0_1,duo_0_2,duo_0_3,duo_0_4,duo_0_5,duo_0_6,duo_0_7]
 rfl
def lf0:List UInt8:=[160,27,48,193,219,253,97,14,149,128,34,228,187,252,227,219,57,211,49,241,173,71,68,220,35,252,163,217,51,210,176,81]
set_option maxRecDepth 100000 in
theorem tag0:ZK tKey [pairs0]=lf0:=by decide +kernel
theorem leafL0:bR [113] 0 8=lf0:=by unfold bR;rw [flat0,tag0]
def pairs1:List UInt8:=[61,164,12,124,100,232,226,147,181,62,135,85,169,54,5,179,231,194,69,41,17,150,236,111,4,114,45,113,226,55,211,248,101,31,134,202,54,244,38,244,57,166,8,209,38,233,98,132,20,97,221,239,139,175,237,206,202,116,4,250,67,122,159,22,64,79,153,224,7,60,210,9,57,193,186,166,88,136,243,32,147,231,239,97,134,245,64,48,179,32,205,79,82,82,175,46,248,154,27,76,69,210,123,222,79,171,181,26,229,70,15,92,83,243,89,110,83,183,144,218,248,183,39,122,5,32,143,126,119,74,203,67,38,224,215,21,112,230,72,93,81,95,209,217,253,6,203,70,240,222,247,96,157,34,250,105,17,63,123,121,100,114,27,202,254,220,246,26,188,0,211,129,6,129,88,22,238,65,58,201,63,87,57,140,1,216,20,180,230,99,15,96,164,236,183,88,79,170,138,171,189,177,35,29,239,219,253,253,142,61,188,248,75,130,70,186,91,193,41,90,228,86,203,14,232,248,68,57,89,115,111,75,71,255,101,169,49,150,109,61,24,206,116,238,29,53,2,215,0,163,127,118,133,240,239,248,239,241,238,202,239,157,212,152,233,154,34,19,84,125,135,20,223,44,249,248,204,63,252,204,98,245,215,67,177,213,67,178,237,35,218,48,51,178,228,120,23,83,145,69,179,40,227,68,238,57,107,211,161,142,13,16,22,162,238,248,101,131,252,224,111,243,74,20,139,133,127,0,113,88,90,156,38,139,228,41,117,134,79,76,91,168,41,140,244,70,2,141,170,60,190,24,189,181,130,220,240,66,170,135,254,63,7,198,74,146,187,232,6,152,203,3,65,236,104,233,47,117,26,32,58,236,148,66,12,153,199,102,225,134,251,76,137,189,176,189,123,15,222,15,42,58,73,58,253,8,129,0,77,175,68,247,251,238,223,147,35,251,255,149,53,125,218,109,248,78,89,170,64,99,96,194,3,82,191,53,85,65,42,30,12,72,223,240,27,38,237,172,176,133,109,66,48,184,251,219,156,147,112,237,88,230,46,111,109,227,148,102,153,174,150,28,148,33,203,113,255,194,167,81,151,221,151,153,163,70,138,228,240,99,240,231,152,219,55,118,159,206,155,233,249,121,17,114,49,176,243,31,66,243,160,159]
set_option maxRecDepth 100000 in
theorem flat1:((List.range 8).map (xL [113] 1)).flatten=pairs1:=by
 rw [show List.range 8=[0,1,2,3,4,5,6,7] from rfl]
 simp only [List.map,duo_1_0,duo_1_1,duo_1_2,duo_1_3,duo_1_4,duo_1_5,duo_1_6,duo_1_7]
 rfl
def lf1:List UInt8:=[119,112,245,92,158,112,71,51,143,153,10,163,156,20,234,45,3,180,59,185,148,41,140,178,240,84,215,234,74,208,40,3]
set_option maxRecDepth 100000 in
theorem tag1:ZK tKey [pairs1]=lf1:=by decide +kernel
theorem leafL1:bR [113] 1 8=lf1:=by unfold bR;rw [flat1,tag1]
def rt:List UInt8:=[109,80,62,24,29,90,56,131,38,26,136,139,126,236,1,30,19,99,148,139,151,201,177,195,147,0,131,1,42,65,77,166]
set_option maxRecDepth 100000 in
theorem nodeRt:xC lf0 lf1=rt:=by decide +kernel
open Go.RowKit
def tx0:List UInt8:=[123,34,107,101,121,116,121,112,101,34,58,34,108,97,109,112,111,114,116,45,109,101,114,107,108,101,34,44,34,107,101,121,118,97,108,34,58,123,34,98,105,116,115,34,58]
def tx1:List UInt8:=[44,34,104,101,105,103,104,116,34,58]
def tx2:List UInt8:=[44,34,112,117,98,108,105,99,34,58,34]
def tx3:List UInt8:=[34,125,44,34,115,99,104,101,109,101,34,58,34,115,104,97,50,53,54,34,125]
def Kf (b h:List UInt8) (root:List UInt8):List UInt8:=tx0 ++ (b ++ (tx1 ++ (h ++ (tx2 ++ (kq root ++ tx3)))))
theorem zaf:∀ (l:List UInt8),(∀ b,b ∈ l→xK b=true)→l.flatMap zQ=l
 | [],_=>rfl
 | b :: l,h=>by
  have h1:∀ c:Fin 256,xK (UInt8.ofNat c.val)=true→zQ (UInt8.ofNat c.val)=[UInt8.ofNat c.val]:=by decide +kernel
  have h2:=h1 ⟨b.toNat,UInt8.toNat_lt b⟩
  simp only [UInt8.ofNat_toNat] at h2
  rw [List.flatMap_cons,h2 (h b (by simp)),zaf l (fun c hc=>h c (List.mem_cons_of_mem _ hc))]
  rfl
theorem sort_three {α:Type}(a b c:ByteArray × α) (h1:leK a c=true) (h2:leK c b=true) (hn:([a,b,c].map (fun p=>p.1)).Nodup):([a,b,c]:List (ByteArray × α)).mergeSort leK=[a,c,b]:=by
 refine kQ ((List.mergeSort_perm _ _).trans (List.Perm.cons a (List.Perm.swap c b []))) (List.pairwise_mergeSort qY vI _) ?_ ((List.Perm.nodup_iff ((List.mergeSort_perm _ _).map _)).2 hn)
 simp only [List.pairwise_cons,List.mem_cons,List.not_mem_nil,or_false,forall_eq_or_imp,forall_eq,List.Pairwise.nil,false_imp_iff,implies_true,and_true]
 exact⟨⟨h1,qY _ _ _ h1 h2⟩,h2⟩
theorem sort_same {α:Type}(a b c:ByteArray × α) (h1:leK a b=true) (h2:leK b c=true):([a,b,c]:List (ByteArray × α)).mergeSort leK=[a,b,c]:=by
 refine List.mergeSort_of_pairwise ?_
 simp only [List.pairwise_cons,List.mem_cons,List.not_mem_nil,or_false,forall_eq_or_imp,forall_eq,List.Pairwise.nil,false_imp_iff,implies_true,and_true]
 exact⟨⟨h1,qY _ _ _ h1 h2⟩,h2⟩
theorem zaw {n:Nat}(z:Int):zz (n + 1) (YA z:VS (V n))=(YA z:VS (V n)):=by
 show (⟨3,z,_,_,List.mergeSort _ _⟩:VS (V n))=_
 rw [show ((YA z:VS (V n)).m.map (fun p=>(p.1,zz n p.2)))=[] from rfl,List.mergeSort_nil]
 rfl
theorem ZT {n:Nat}(s:ByteArray):zz (n + 1) (qE s:VS (V n))=(qE s:VS (V n)):=by
 show (⟨4,0,_,_,List.mergeSort _ _⟩:VS (V n))=_
 rw [show ((qE s:VS (V n)).m.map (fun p=>(p.1,zz n p.2)))=[] from rfl,List.mergeSort_nil]
 rfl
theorem sort_valV (k:zP):zz 2 (jO k)=jO k:=by
 show (⟨6,0,_,_,List.mergeSort [(_,zz 1 _),(_,zz 1 _),(_,zz 1 _)] _⟩:VS (V 1))=_
 rw [zaw,zaw,ZT,sort_same _ _ _ (by rfl) (by rfl)]
 rfl
theorem sort_keyV (k:zP):zz 3 (qG k)=(Ze [(⟨#[107,101,121,116,121,112,101]⟩,(qE ⟨#[108,97,109,112,111,114,116,45,109,101,114,107,108,101]⟩:VS (V 1))),(⟨#[107,101,121,118,97,108]⟩,jO k),(⟨#[115,99,104,101,109,101]⟩,qE ⟨#[115,104,97,50,53,54]⟩)]:VS (V 2)):=by
 show (⟨6,0,_,_,List.mergeSort [(_,zz 2 _),(_,zz 2 _),(_,zz 2 _)] _⟩:VS (V 2))=_
 rw [ZT,ZT,sort_valV,sort_three _ _ _ (by rfl) (by rfl) (by simp only [List.map_cons,List.map_nil];decide)]
 rfl
theorem quote_hex (l:List UInt8):yr (xU l).data.toList=34 :: (kq l ++ [34]):=by
 unfold yr
 rw [zan,zaf _ (QP l)]
theorem write_val (k:zP):zq 2 (jO k)=123 :: ((([34,98,105,116,115,34] ++ (58 :: Lib.itoa k.bits)) ++ (44 :: (([34,104,101,105,103,104,116,34] ++ (58 :: Lib.itoa k.height)) ++ (44 :: ([34,112,117,98,108,105,99,34] ++ (58 :: yr (xU k.root).data.toList)))))) ++ [125]):=rfl
theorem write_key (k:zP):zq 3 (zz 3 (qG k))=Kf (Lib.itoa k.bits) (Lib.itoa k.height) k.root:=by
 rw [sort_keyV]
 have e:∀ x:VS (V 1),zq 3 (Ze [(⟨#[107,101,121,116,121,112,101]⟩,(qE ⟨#[108,97,109,112,111,114,116,45,109,101,114,107,108,101]⟩:VS (V 1))),(⟨#[107,101,121,118,97,108]⟩,x),(⟨#[115,99,104,101,109,101]⟩,qE ⟨#[115,104,97,50,53,54]⟩)]:VS (V 2))=[123,34,107,101,121,116,121,112,101,34,58,34,108,97,109,112,111,114,116,45,109,101,114,107,108,101,34,44,34,107,101,121,118,97,108,34,58] ++ (zq 2 x ++ [44,34,115,99,104,101,109,101,34,58,34,115,104,97,50,53,54,34,125]):=fun x=>by
  show 123 :: ((_ ++ (44 :: ((_ ++ (58 :: zq 2 x)) ++ (44 :: _)))) ++ [125])=_
  simp only [List.append_assoc,List.cons_append]
  rfl
 refine (e (jO k)).trans ?_
 rw [write_val,quote_hex]
 unfold Kf tx0 tx1 tx2 tx3
 simp only [List.append_assoc,List.cons_append,List.nil_append]
theorem K1 {k:zP}(hm:zK k=true) (hr:k.root.length=32):yu k=xU (zY (Kf (Lib.itoa k.bits) (Lib.itoa k.height) k.root)):=by
 have hc:=Zt k hm
 have hl:=Zs 3 (zz 3 (qG k)) (by rw [jy];exact (qZ.1 hc).2.2)
 rw [jB,jI] at hl
 have hb:=Qe k hr
 have hq:zt 3 (qG k)=7:=rfl
 have hle:(zq 3 (zz 3 (qG k))).length≤262144:=by omega
 unfold yu
 rw [if_pos hm,Zp hc hle,write_key]
theorem itoas:Lib.itoa 8=[56]∧Lib.itoa 1=[49]∧Lib.itoa 0=[48]:=by decide +kernel
theorem rootRt:xB=rt:=by unfold xB kw;rw [leafL0,leafL1,nodeRt]
def k0:zP:=⟨8,0,kR⟩
set_option maxRecDepth 100000 in
theorem two_sums:zY (Kf [56] [49] rt)≠zY (Kf [56] [48] kR):=by decide +kernel
theorem ids_differ:yu (k8 xB)≠yu k0:=by
 rw [K1 (k:=k8 xB) (by decide) (yP _ _),K1 (k:=k0) (by decide) (by decide),rootRt]
 show xU (zY (Kf (Lib.itoa 8) (Lib.itoa 1) rt))≠xU (zY (Kf (Lib.itoa 8) (Lib.itoa 0) kR))
 rw [itoas.1,itoas.2.1,itoas.2.2]
 intro h
 have h1:=congrArg yB h
 rw [vE,vE] at h1
 exact two_sums (Option.some.inj h1)
attribute [local go_sem] Oper.semAt_some
def je (r:kf) (k:Nat):Int:=if xo r=true then max (r.thr - k) 0 else -1
def xF (r:kf) (k:Nat):Int:=if je r k=0 then 0 else 180
def YM (l:List ByteArray):zg (zb []):=⟨fun v _ w=>∃ q d,v = .slice q l.length d∧xg w (.slice q l.length d) l,fun _ _ _ _ ⟨q,d,h1,h2⟩ k=>⟨q,d,h1,h2.kept0 k⟩⟩
theorem mayRole_thr {r:kf}(h:xo r=true):1≤r.thr∧r.thr≤16:=by
 unfold xo at h
 simp only [Bool.and_eq_true,decide_eq_true_eq] at h
 omega
set_option maxRecDepth 100000 in
theorem bC {n:Nat}{S:Nat→Prop}{w:World}{cs:List Value}{v:V n}{a:Option Addr}{c:Nat}{l:List yh}(h:Env n S w cs v a c l) (ht:ql w) (hks:xz w) {r:kf}{ra:Option Addr}{rc:Nat}(hr:jA w ra rc r) {a2:Option Addr}{c2:Nat}{keys:List xT}(hk:qo w (.slice a2 keys.length c2) keys) :
  Calls Tryz.prog 20 #[.agg (vt cs a l.length c).toArray,.agg #[.slice ra r.keys.length rc,.int .i64 r.thr],.slice a2 keys.length c2] w fun e w'=>e = .returned (.int .i64 (je r (zL n v l r keys).length))∧zb [] w w':=by
 obtain⟨kd,nm,st,p1,i1,d1,p2,i2,d2,rfl⟩:=h.rep.conv
 obtain⟨W1,Ga⟩:∃ W1,Hid (W1=(w.alloc (.cells #[.int .i64 kd,.int .i64 nm,.string st,.slice p1 i1 d1,.slice p2 i2 d2,.slice a l.length c] 28)).alloc (.cells #[.slice ra r.keys.length rc,.int .i64 r.thr] 31)):=⟨_,qI rfl⟩
 have Gb:Hid (zb [] w W1):=qI (by rw [Ga.o];exact ((zb.refl _ w).alloc _).alloc _)
 have Gc:Hid (W1.heap[w.heap.size]? = some (.cells #[.int .i64 kd,.int .i64 nm,.string st,.slice p1 i1 d1,.slice p2 i2 d2,.slice a l.length c] 28 (0,0))):=qI (by rw [Ga.o];exact ((zb.refl [] _).alloc _).heap (zd rfl) (by simp))
 have Gd:Hid (W1.heap[w.heap.size + 1]? = some (.cells #[.slice ra r.keys.length rc,.int .i64 r.thr] 31 (0,0))):=qI (by rw [Ga.o];exact zd (by simp))
 have CR:=qI (Qd (hr.kept0 Gb.o).txt hr.sizes (by have:=hr.few;omega))
 have CV:Hid (∀ w2,zb [] W1 w2→Calls Tryz.prog 12 #[.agg #[.int .i64 kd,.int .i64 nm,.string st,.slice p1 i1 d1,.slice p2 i2 d2,.slice a l.length c],.agg #[.slice ra r.keys.length rc,.int .i64 r.thr],.slice a2 keys.length c2] w2 fun e w'=>(∃ q d,e = .returned (.slice q (zL n v l r keys).length d)∧xg w' (.slice q (zL n v l r keys).length d) (zL n v l r keys))∧zb [] w2 w'):=qI (fun w2 hk2=>by
  have h1:=Zh ((h.kept0 Gb.o).kept0 hk2) ((ht.kept0 Gb.o).kept0 hk2) ((hks.kept0 Gb.o).kept0 hk2) ((hr.kept0 Gb.o).kept0 hk2) ((hk.kept0 Gb.o).kept0 hk2)
  exact h1)
 have HM:Hid (je r (zL n v l r keys).length=if xo r=true then max (r.thr - (zL n v l r keys).length) 0 else -1):=qI rfl
 have Gh:Hid ((zL n v l r keys).length≤1000000):=qI (by
  unfold zL
  split
  ·exact Nat.le_trans (List.length_filter_le _ _) hr.few
  ·simp)
 have Gg:Hid (xo r=true→1≤r.thr∧r.thr≤16):=qI (fun h=>mayRole_thr h)
 clear h ht hks hr hk
 generalize je r (zL n v l r keys).length=res at HM ⊢
 generalize zL n v l r keys=vl at CV HM Gh
 generalize xo r=R at CR HM Gg
 generalize l.length=m at Ga Gc CV ⊢
 generalize keys.length=kn at CV ⊢
 generalize r.keys.length=rn at Ga Gd CR CV ⊢
 generalize r.thr=th at Ga Gd CR CV HM Gg ⊢
 have c0:=za (o:=0) Gc.o rfl
 have c1:=za (o:=1) Gc.o rfl
 have c2':=za (o:=2) Gc.o rfl
 have c3:=za (o:=3) Gc.o rfl
 have c4:=za (o:=4) Gc.o rfl
 have c5:=za (o:=5) Gc.o rfl
 have r0:=za (o:=0) Gd.o rfl
 have r1:=za (o:=1) Gd.o rfl
 show Calls _ _ #[.agg #[.int .i64 kd,.int .i64 nm,.string st,.slice p1 i1 d1,.slice p2 i2 d2,.slice a m c],.agg #[.slice ra rn rc,.int .i64 th],.slice a2 kn c2] _ _
 go_enter func20,ntmps20
 go_upto_region 1 with fail
 change Code.wp _ _ _ _ ((w.alloc (.cells #[.int .i64 kd,.int .i64 nm,.string st,.slice p1 i1 d1,.slice p2 i2 d2,.slice a m c] 28)).alloc (.cells #[.slice ra rn rc,.int .i64 th] 31))
 rw [← Ga.o]
 cases R with
 | false=>
  have HR:Hid (res = -1):=qI (by rw [HM.o,if_neg (by simp)])
  go_wp2_with (go_at_call 24;refine CR.o.mono ?_;rintro e w2 ⟨rfl,hk2⟩;have Ge:=qI hk2;clear hk2)
  go_ret
  rw [HR.o]
  exact⟨rfl,Gb.o.then Ge.o⟩
 | true=>
  have HR:Hid (res=max (th - vl.length) 0):=qI (by rw [HM.o,if_pos rfl])
  have hth:=Gg.o rfl
  have hvl:(vl.length:Int)≤1000000:=by have:=Gh.o;omega
  clear HM
  go_upto_region 3 with (go_at_call 24;refine CR.o.mono ?_;rintro e w2 ⟨rfl,hk2⟩;have y0:=hk2.cell c0 (by simp);have y1:=hk2.cell c1 (by simp);have y2:=hk2.cell c2' (by simp);have y3:=hk2.cell c3 (by simp);have y4:=hk2.cell c4 (by simp);have y5:=hk2.cell c5 (by simp);have z0:=hk2.cell r0 (by simp);have z1:=hk2.cell r1 (by simp);have Ge:=qI hk2;clear hk2 c0 c1 c2' c3 c4 c5 r0 r1)
  go_wp2
  refine zZ (n:=19) 7 [zg.is (.pointer (some ⟨w.heap.size + 1,1,none⟩)),
   zg.is (.int .i64 th),
   zg.is (.agg #[.int .i64 kd,.int .i64 nm,.string st,.slice p1 i1 d1,.slice p2 i2 d2,.slice a m c]),
   zg.is (.agg #[.slice ra rn rc,.int .i64 th]),
   zg.is (.slice a2 kn c2),
   YM vl,
   zg.is (.int .i64 vl.length)] (by kernel_rfl) rfl (by kernel_rfl) (fun x=>by simp only [List.map,yM,Act.put,List.setIfInBounds_toArray,List.set_cons_zero,List.set_cons_succ];rfl) ?_ ?_
  ·refine⟨fun x w2 hkw b hd=>?_,fun x w2 hkw b hd=>?_,fun x w2 hkw b hd=>?_,fun x w2 hkw b hd=>?_,fun x w2 hkw b hd=>?_,fun x w2 hkw b hd=>?_,fun x w2 hkw b hd=>?_,trivial⟩
   ·go_wp2_with fail
    exact⟨rfl,zb.refl _ _⟩
   ·have d0:x 0=_:=hd 0 (by kernel_rfl)
    have x1:=hkw.cell z1 (by simp)
    go_wp2_with fail
    exact⟨rfl,zb.refl _ _⟩
   ·have x0:=hkw.cell y0 (by simp)
    have x1:=hkw.cell y1 (by simp)
    have x2:=hkw.cell y2 (by simp)
    have x3:=hkw.cell y3 (by simp)
    have x4:=hkw.cell y4 (by simp)
    have x5:=hkw.cell y5 (by simp)
    go_wp2_with fail
    exact⟨rfl,zb.refl _ _⟩
   ·have x0:=hkw.cell z0 (by simp)
    have x1:=hkw.cell z1 (by simp)
    go_wp2_with fail
    exact⟨rfl,zb.refl _ _⟩
   ·go_wp2_with fail
    exact⟨rfl,zb.refl _ _⟩
   ·have d2:x 2=_:=hd 2 (by kernel_rfl)
    have d3:x 3=_:=hd 3 (by kernel_rfl)
    have d4:x 4=_:=hd 4 (by kernel_rfl)
    have d2:x 2=_:=hd 2 (by kernel_rfl)
    have d3:x 3=_:=hd 3 (by kernel_rfl)
    have d4:x 4=_:=hd 4 (by kernel_rfl)
    have CX:=CV.o _ (Ge.o.then hkw)
    go_wp2_with (go_at_call 12;refine CX.mono ?_;rintro e w9 ⟨⟨q9,d9,rfl,hb9⟩,hk9⟩;have Gi:=qI hb9;have Gj:=qI hk9;clear hb9 hk9)
    exact⟨⟨q9,d9,rfl,Gi.o⟩,Gj.o⟩
   ·obtain⟨q9,e9,d5,-⟩:=hd 5 (by kernel_rfl)
    go_wp2_with fail
    exact⟨rfl,zb.refl _ _⟩
  ·intro x w17 hkw b17 hd hwin
   have d1:x 1=_:=hd 1 (by decide)
   obtain⟨q,d,d5,-⟩:=hd 5 (by decide)
   have d6:x 6=_:=hd 6 (by decide)
   have Gk:=qI hkw
   clear hd hwin hkw
   change wpList _ _ _ [_,_,_] _ _
   obtain⟨h1,h2⟩:=hth
   go_wp2_with fail
   go_ret
   rw [HR.o]
   exact⟨rfl,Gb.o.then (Ge.o.then Gk.o)⟩
theorem jG {n:Nat}{S:Nat→Prop}{w:World}{cs:List Value}{v:V n}{a:Option Addr}{c:Nat}{l:List yh}(h:Env n S w cs v a c l) (ht:ql w) (hks:xz w) {r:kf}{ra:Option Addr}{rc:Nat}(hr:jA w ra rc r) {a2:Option Addr}{c2:Nat}{keys:List xT}(hk:qo w (.slice a2 keys.length c2) keys) :
  Calls Tryz.prog 15 #[.agg (vt cs a l.length c).toArray,.agg #[.slice ra r.keys.length rc,.int .i64 r.thr],.slice a2 keys.length c2] w fun e w'=>e = .returned (.int .i64 (xF r (zL n v l r keys).length))∧zb [] w w':=by
 obtain⟨kd,nm,st,p1,i1,d1,p2,i2,d2,rfl⟩:=h.rep.conv
 obtain⟨W1,Ga⟩:∃ W1,Hid (W1=(w.alloc (.cells #[.int .i64 kd,.int .i64 nm,.string st,.slice p1 i1 d1,.slice p2 i2 d2,.slice a l.length c] 28)).alloc (.cells #[.slice ra r.keys.length rc,.int .i64 r.thr] 31)):=⟨_,qI rfl⟩
 have Gb:Hid (zb [] w W1):=qI (by rw [Ga.o];exact ((zb.refl _ w).alloc _).alloc _)
 have Gc:Hid (W1.heap[w.heap.size]? = some (.cells #[.int .i64 kd,.int .i64 nm,.string st,.slice p1 i1 d1,.slice p2 i2 d2,.slice a l.length c] 28 (0,0))):=qI (by rw [Ga.o];exact ((zb.refl [] _).alloc _).heap (zd rfl) (by simp))
 have Gd:Hid (W1.heap[w.heap.size + 1]? = some (.cells #[.slice ra r.keys.length rc,.int .i64 r.thr] 31 (0,0))):=qI (by rw [Ga.o];exact zd (by simp))
 have CM:Hid (Calls Tryz.prog 20 #[.agg #[.int .i64 kd,.int .i64 nm,.string st,.slice p1 i1 d1,.slice p2 i2 d2,.slice a l.length c],.agg #[.slice ra r.keys.length rc,.int .i64 r.thr],.slice a2 keys.length c2] W1 fun e w'=>e = .returned (.int .i64 (je r (zL n v l r keys).length))∧zb [] W1 w'):=qI (by
  have h1:=bC (h.kept0 Gb.o) (ht.kept0 Gb.o) (hks.kept0 Gb.o) (hr.kept0 Gb.o) (hk.kept0 Gb.o)
  exact h1)
 have Gf:Hid (xF r (zL n v l r keys).length=if je r (zL n v l r keys).length=0 then 0 else 180):=qI rfl
 clear h ht hks hr hk
 generalize xF r (zL n v l r keys).length=res at Gf ⊢
 generalize je r (zL n v l r keys).length=mz at CM Gf
 generalize l.length=m at Ga Gc CM ⊢
 generalize keys.length=kn at CM ⊢
 generalize r.keys.length=rn at Ga Gd CM ⊢
 generalize r.thr=th at Ga Gd CM ⊢
 have c0:=za (o:=0) Gc.o rfl
 have c1:=za (o:=1) Gc.o rfl
 have c2':=za (o:=2) Gc.o rfl
 have c3:=za (o:=3) Gc.o rfl
 have c4:=za (o:=4) Gc.o rfl
 have c5:=za (o:=5) Gc.o rfl
 have r0:=za (o:=0) Gd.o rfl
 have r1:=za (o:=1) Gd.o rfl
 show Calls _ _ #[.agg #[.int .i64 kd,.int .i64 nm,.string st,.slice p1 i1 d1,.slice p2 i2 d2,.slice a m c],.agg #[.slice ra rn rc,.int .i64 th],.slice a2 kn c2] _ _
 by_cases hz:mz=0
 ·have HR:Hid (res=0):=qI (by rw [Gf.o,if_pos hz])
  obtain⟨f1,f2⟩:=xt hz
  clear Gf hz
  go_enter func15,ntmps15
  go_upto_region 1 with fail
  change Code.wp _ _ _ _ ((w.alloc (.cells #[.int .i64 kd,.int .i64 nm,.string st,.slice p1 i1 d1,.slice p2 i2 d2,.slice a m c] 28)).alloc (.cells #[.slice ra rn rc,.int .i64 th] 31))
  rw [← Ga.o]
  go_wp2_with (go_at_call 20;refine CM.o.mono ?_;rintro e w2 ⟨rfl,hk2⟩;have Ge:=qI hk2;clear hk2)
  go_ret
  rw [HR.o]
  exact⟨rfl,Gb.o.then Ge.o⟩
 ·have HR:Hid (res=180):=qI (by rw [Gf.o,if_neg hz])
  obtain⟨f1,f2⟩:=yx hz
  clear Gf hz
  go_enter func15,ntmps15
  go_upto_region 1 with fail
  change Code.wp _ _ _ _ ((w.alloc (.cells #[.int .i64 kd,.int .i64 nm,.string st,.slice p1 i1 d1,.slice p2 i2 d2,.slice a m c] 28)).alloc (.cells #[.slice ra rn rc,.int .i64 th] 31))
  rw [← Ga.o]
  go_wp2_with (go_at_call 20;refine CM.o.mono ?_;rintro e w2 ⟨rfl,hk2⟩;have Ge:=qI hk2;clear hk2)
  go_ret
  rw [HR.o]
  exact⟨rfl,Gb.o.then Ge.o⟩
section
variable {n : Nat} {v : V n} {l m : List yh}
theorem JX (h:zW n v m=zW n v l):qi n v m=qi n v l:=by
 unfold qi
 rw [h]
theorem rowSigns_ext (h:zW n v m=zW n v l) (id:ByteArray) (k:zP):yV n v m id k=yV n v l id k:=by
 funext r
 unfold yV jc
 rw [h,JX h]
theorem more_may {row:yh}(h:zW n v (l ++ [row])=true):zW n v l=true:=by
 unfold zW at h ⊢
 simp only [Bool.and_eq_true,decide_eq_true_eq,List.length_append,List.length_singleton,List.all_append] at h ⊢
 exact⟨h.1,h.2.1,h.2.2.1,by omega,h.2.2.2.2.1⟩
theorem jE {row:yh}(h:zW n v (l ++ [row])=true) (keys:List xT) (id:ByteArray) :
  (yT n v l keys id=true→yT n v (l ++ [row]) keys id=true)∧(yT n v (l ++ [row]) keys id=true→yT n v l keys id=false→row.id=id):=by
 have hm:zW n v (l ++ [row])=zW n v l:=by rw [h,more_may h]
 unfold yT
 cases jV keys id with
 | none=>exact⟨fun h=>h,fun h=>by cases h⟩
 | some r=>
  simp only [rowSigns_ext hm,List.any_append,Bool.and_eq_true,Bool.or_eq_true,Bool.and_eq_false_iff]
  refine⟨fun h=>⟨h.1,h.2.1,.inl h.2.2⟩,fun h h2=>?_⟩
  rcases h2 with h2 | h2 | h2
  ·rw [h2] at h;cases h.1
  ·rw [h2] at h;cases h.2.1
  ·rcases h.2.2 with h3 | h3
   ·rw [h2] at h3;cases h3
   ·simp only [List.any_cons,List.any_nil,Bool.or_false] at h3
    unfold yV at h3
    rw [Bool.and_eq_true,decide_eq_true_eq] at h3
    exact h3.1
end
theorem vV {α:Type}(p q:α→Bool) (h:∀ x,p x=true→q x=true):∀ l:List α,(l.filter p).Sublist (l.filter q)
 | []=>.slnil
 | x :: l=>by
  cases hp:p x with
  | true=>rw [List.filter_cons_of_pos hp,List.filter_cons_of_pos (h x hp)];exact (vV p q h l).cons_cons x
  | false=>
   rw [List.filter_cons_of_neg (p:=p) (by simp [hp])]
   cases hq:q x with
   | true=>rw [List.filter_cons_of_pos hq];exact (vV p q h l).cons x
   | false=>rw [List.filter_cons_of_neg (p:=q) (by simp [hq])];exact vV p q h l
theorem Qs {α:Type}(p q:α→Bool) (l:List α) (h:∀ x,x ∈ l→p x=q x):l.filter p=l.filter q:=List.filter_congr h
theorem ZM {α:Type}(p q:α→Bool) (z:α) (h:∀ x,p x=true→q x=true) (h2:∀ x,q x=true→p x=false→z=x):∀ l:List α,l.Nodup→(l.filter q).length≤(l.filter p).length + 1
 | [],_=>by simp
 | x :: l,hn=>by
  have hn2:=(List.nodup_cons.1 hn)
  cases hp:p x with
  | true=>
   rw [List.filter_cons_of_pos hp,List.filter_cons_of_pos (h x hp)]
   have:=ZM p q z h h2 l hn2.2
   simp only [List.length_cons]
   omega
  | false=>
   rw [List.filter_cons_of_neg (p:=p) (by simp [hp])]
   cases hq:q x with
   | true=>
    have hz:z=x:=h2 x hq hp
    subst hz
    rw [List.filter_cons_of_pos (p:=q) hq,Qs q p l (fun y hy=>by
     cases hpy:p y with
     | true=>rw [h y hpy]
     | false=>
      cases hqy:q y with
      | false=>rfl
      | true=>exact absurd (h2 y hqy hpy ▸ hy) hn2.1)]
    simp
   | false=>rw [List.filter_cons_of_neg (p:=q) (by simp [hq])];exact ZM p q z h h2 l hn2.2
theorem Zn:∀ (l seen:List ByteArray),bX seen l=true↔(∀ k,k ∈ l→kv k=true∧k ∉ seen)∧l.Nodup
 | [],seen=>by simp [bX]
 | k :: t,seen=>by
  rw [bX,Bool.and_eq_true,Bool.and_eq_true,Zn t (seen ++ [k])]
  simp only [Bool.not_eq_true',List.any_eq_false,decide_eq_true_eq,List.mem_append,not_or,List.mem_cons,List.not_mem_nil,or_false,List.nodup_cons,forall_eq_or_imp]
  constructor
  ·rintro ⟨⟨h1,h2⟩,h3,h4⟩
   exact⟨⟨⟨h2,fun h=>h1 k h rfl⟩,fun x hx=>⟨(h3 x hx).1,(h3 x hx).2.1⟩⟩,fun h=>(h3 k h).2.2 rfl,h4⟩
  ·rintro ⟨⟨⟨h1,h2⟩,h3⟩,h4,h5⟩
   exact⟨⟨fun x hx e=>h2 (e ▸ hx),h1⟩,fun x hx=>⟨(h3 x hx).1,(h3 x hx).2,fun e=>h4 (e ▸ hx)⟩,h5⟩
theorem JE {r:kf}(h:xo r=true):r.keys.Nodup:=by
 unfold xo at h
 simp only [Bool.and_eq_true] at h
 exact ((Zn _ _).1 h.2.2.2).2
section
variable {n : Nat} {v : V n} {l : List yh}
end
end Go.Proofs.YtibnfbglanpoiaaGreatDoor
